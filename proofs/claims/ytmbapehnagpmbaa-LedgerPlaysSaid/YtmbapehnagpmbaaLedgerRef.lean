/- The contracts of the reference of chapter 16 (package vendueref16): money, Check, Free, Balanced, Put, Hold, Let, Settle: what each call answers; memory that lay before lies as it lay. -/
import Derived.Test.YtmbapehnagpmbaaLedgerAwake
import Derived.Deep.QuietTactic
import Derived.BigQuiet
namespace Go.Proofs.Ytmbapehnagpmbaa
open Go.RowKit
set_option linter.unusedVariables false

def monB (n : Int) : Bool := decide (0 ≤ n ∧ n ≤ 1125899906842624)
theorem mon_yes {n : Int} (h : monB n = true) : 0 ≤ n ∧ n ≤ 1125899906842624 := of_decide_eq_true h
theorem mon_no {n : Int} (h : monB n = false) : ¬ (0 ≤ n ∧ n ≤ 1125899906842624) := of_decide_eq_false h

theorem mon_any (n : Int) (w : World) : Calls Try.prog 43 #[.int .i64 n] w fun e w' => e = .returned (.bool (monB n)) ∧ w = w' := by
  by_cases h1 : 0 ≤ n
  · by_cases h2 : n ≤ 1125899906842624
    · have H := Lib.hid (show monB n = true from decide_eq_true ⟨h1, h2⟩)
      go_enter Try.func43, Try.ntmps43
      go_wp2_with fail
      go_ret
      exact ⟨by rw [H.out]; rfl, rfl⟩
    · have H := Lib.hid (show monB n = false from decide_eq_false (by omega))
      have hd : decide (n ≤ 1125899906842624) = false := decide_eq_false h2
      go_enter Try.func43, Try.ntmps43
      go_wp2_with fail
      go_ret
      exact ⟨by rw [H.out]; rfl, rfl⟩
  · have H := Lib.hid (show monB n = false from decide_eq_false (by omega))
    have hd : decide (0 ≤ n) = false := decide_eq_false h1
    go_enter Try.func43, Try.ntmps43
    go_wp2_with fail
    go_ret
    exact ⟨by rw [H.out]; rfl, rfl⟩

set_option maxHeartbeats 3200000 in
theorem refCheck_any (n i h : Int) (s : Bool) (p b d : Int) (w : World) :
    Calls Try.prog 30 #[.agg #[.int .i64 n, .int .i64 i, .int .i64 h, .bool s, .int .i64 p, .int .i64 b, .int .i64 d]] w fun e w' => e = .returned (.bool (Acc.ok ⟨n, i, h, s, p, b, d⟩)) ∧ Below w.heap.size w w' := by
  by_cases h1 : n < 1
  · have H := Lib.hid (show Acc.ok ⟨n, i, h, s, p, b, d⟩ = false from decide_eq_false (fun hk => by have := hk.1; simp at this; omega))
    go_enter Try.func30, Try.ntmps30
    go_wp2_with fail
    go_ret
    exact ⟨by rw [H.out]; rfl, (Below.refl _ _).alloc (Nat.le_refl _) _⟩
  by_cases h2 : 15 < n
  · have H := Lib.hid (show Acc.ok ⟨n, i, h, s, p, b, d⟩ = false from decide_eq_false (fun hk => by have := hk.1; simp at this; omega))
    go_enter Try.func30, Try.ntmps30
    go_wp2_with fail
    go_ret
    exact ⟨by rw [H.out]; rfl, (Below.refl _ _).alloc (Nat.le_refl _) _⟩
  cases m0 : monB i
  · have H := Lib.hid (show Acc.ok ⟨n, i, h, s, p, b, d⟩ = false from decide_eq_false (fun hk => mon_no m0 hk.2.1))
    have M0 := Lib.hid m0
    clear m0
    go_enter Try.func30, Try.ntmps30
    go_wp2_with fail
    refine (mon_any i _).mono ?_; rintro e w' ⟨rfl, rfl⟩
    rw [M0.out]
    go_wp2_with fail
    go_ret
    exact ⟨by rw [H.out]; rfl, (Below.refl _ _).alloc (Nat.le_refl _) _⟩
  cases m1 : monB h
  · have H := Lib.hid (show Acc.ok ⟨n, i, h, s, p, b, d⟩ = false from decide_eq_false (fun hk => mon_no m1 hk.2.2.1))
    have M0 := Lib.hid m0
    have M1 := Lib.hid m1
    clear m0 m1
    go_enter Try.func30, Try.ntmps30
    go_wp2_with fail
    refine (mon_any i _).mono ?_; rintro e w' ⟨rfl, rfl⟩
    rw [M0.out]
    go_wp2_with fail
    refine (mon_any h _).mono ?_; rintro e w' ⟨rfl, rfl⟩
    rw [M1.out]
    go_wp2_with fail
    go_ret
    exact ⟨by rw [H.out]; rfl, (Below.refl _ _).alloc (Nat.le_refl _) _⟩
  cases m2 : monB p
  · have H := Lib.hid (show Acc.ok ⟨n, i, h, s, p, b, d⟩ = false from decide_eq_false (fun hk => mon_no m2 hk.2.2.2.1))
    have M0 := Lib.hid m0
    have M1 := Lib.hid m1
    have M2 := Lib.hid m2
    clear m0 m1 m2
    go_enter Try.func30, Try.ntmps30
    go_wp2_with fail
    refine (mon_any i _).mono ?_; rintro e w' ⟨rfl, rfl⟩
    rw [M0.out]
    go_wp2_with fail
    refine (mon_any h _).mono ?_; rintro e w' ⟨rfl, rfl⟩
    rw [M1.out]
    go_wp2_with fail
    refine (mon_any p _).mono ?_; rintro e w' ⟨rfl, rfl⟩
    rw [M2.out]
    go_wp2_with fail
    go_ret
    exact ⟨by rw [H.out]; rfl, (Below.refl _ _).alloc (Nat.le_refl _) _⟩
  cases m3 : monB b
  · have H := Lib.hid (show Acc.ok ⟨n, i, h, s, p, b, d⟩ = false from decide_eq_false (fun hk => mon_no m3 hk.2.2.2.2.1))
    have M0 := Lib.hid m0
    have M1 := Lib.hid m1
    have M2 := Lib.hid m2
    have M3 := Lib.hid m3
    clear m0 m1 m2 m3
    go_enter Try.func30, Try.ntmps30
    go_wp2_with fail
    refine (mon_any i _).mono ?_; rintro e w' ⟨rfl, rfl⟩
    rw [M0.out]
    go_wp2_with fail
    refine (mon_any h _).mono ?_; rintro e w' ⟨rfl, rfl⟩
    rw [M1.out]
    go_wp2_with fail
    refine (mon_any p _).mono ?_; rintro e w' ⟨rfl, rfl⟩
    rw [M2.out]
    go_wp2_with fail
    refine (mon_any b _).mono ?_; rintro e w' ⟨rfl, rfl⟩
    rw [M3.out]
    go_wp2_with fail
    go_ret
    exact ⟨by rw [H.out]; rfl, (Below.refl _ _).alloc (Nat.le_refl _) _⟩
  cases m4 : monB d
  · have H := Lib.hid (show Acc.ok ⟨n, i, h, s, p, b, d⟩ = false from decide_eq_false (fun hk => mon_no m4 hk.2.2.2.2.2.1))
    have M0 := Lib.hid m0
    have M1 := Lib.hid m1
    have M2 := Lib.hid m2
    have M3 := Lib.hid m3
    have M4 := Lib.hid m4
    clear m0 m1 m2 m3 m4
    go_enter Try.func30, Try.ntmps30
    go_wp2_with fail
    refine (mon_any i _).mono ?_; rintro e w' ⟨rfl, rfl⟩
    rw [M0.out]
    go_wp2_with fail
    refine (mon_any h _).mono ?_; rintro e w' ⟨rfl, rfl⟩
    rw [M1.out]
    go_wp2_with fail
    refine (mon_any p _).mono ?_; rintro e w' ⟨rfl, rfl⟩
    rw [M2.out]
    go_wp2_with fail
    refine (mon_any b _).mono ?_; rintro e w' ⟨rfl, rfl⟩
    rw [M3.out]
    go_wp2_with fail
    refine (mon_any d _).mono ?_; rintro e w' ⟨rfl, rfl⟩
    rw [M4.out]
    go_wp2_with fail
    go_ret
    exact ⟨by rw [H.out]; rfl, (Below.refl _ _).alloc (Nat.le_refl _) _⟩
  have M0 := Lib.hid m0
  have e0 := mon_yes m0
  have M1 := Lib.hid m1
  have e1 := mon_yes m1
  have M2 := Lib.hid m2
  have e2 := mon_yes m2
  have M3 := Lib.hid m3
  have e3 := mon_yes m3
  have M4 := Lib.hid m4
  have e4 := mon_yes m4
  clear m0 m1 m2 m3 m4
  cases s
  · by_cases c1 : h ≤ i
    · by_cases c2 : p = 0
      · by_cases c3 : b = 0
        · by_cases c4 : d = 0
          · have H := Lib.hid (show Acc.ok ⟨n, i, h, false, p, b, d⟩ = true from decide_eq_true (by unfold Acc.Ok; simp; omega))
            have q2 : (p == 0) = true := beq_iff_eq.2 (by omega)
            have q3 : (b == 0) = true := beq_iff_eq.2 (by omega)
            have q4 : (d == 0) = true := beq_iff_eq.2 (by omega)
            clear c2 c3 c4
            go_enter Try.func30, Try.ntmps30
            go_wp2_with fail
            refine (mon_any i _).mono ?_; rintro e w' ⟨rfl, rfl⟩
            rw [M0.out]
            go_wp2_with fail
            refine (mon_any h _).mono ?_; rintro e w' ⟨rfl, rfl⟩
            rw [M1.out]
            go_wp2_with fail
            refine (mon_any p _).mono ?_; rintro e w' ⟨rfl, rfl⟩
            rw [M2.out]
            go_wp2_with fail
            refine (mon_any b _).mono ?_; rintro e w' ⟨rfl, rfl⟩
            rw [M3.out]
            go_wp2_with fail
            refine (mon_any d _).mono ?_; rintro e w' ⟨rfl, rfl⟩
            rw [M4.out]
            go_wp2_with fail
            go_ret
            exact ⟨by rw [H.out]; rfl, (Below.refl _ _).alloc (Nat.le_refl _) _⟩
          · have H := Lib.hid (show Acc.ok ⟨n, i, h, false, p, b, d⟩ = false from decide_eq_false (by unfold Acc.Ok; simp; omega))
            have q2 : (p == 0) = true := beq_iff_eq.2 (by omega)
            have q3 : (b == 0) = true := beq_iff_eq.2 (by omega)
            have q4 : (d == 0) = false := beq_eq_false_iff_ne.2 (by omega)
            clear c2 c3 c4
            go_enter Try.func30, Try.ntmps30
            go_wp2_with fail
            refine (mon_any i _).mono ?_; rintro e w' ⟨rfl, rfl⟩
            rw [M0.out]
            go_wp2_with fail
            refine (mon_any h _).mono ?_; rintro e w' ⟨rfl, rfl⟩
            rw [M1.out]
            go_wp2_with fail
            refine (mon_any p _).mono ?_; rintro e w' ⟨rfl, rfl⟩
            rw [M2.out]
            go_wp2_with fail
            refine (mon_any b _).mono ?_; rintro e w' ⟨rfl, rfl⟩
            rw [M3.out]
            go_wp2_with fail
            refine (mon_any d _).mono ?_; rintro e w' ⟨rfl, rfl⟩
            rw [M4.out]
            go_wp2_with fail
            go_ret
            exact ⟨by rw [H.out]; rfl, (Below.refl _ _).alloc (Nat.le_refl _) _⟩
        · have H := Lib.hid (show Acc.ok ⟨n, i, h, false, p, b, d⟩ = false from decide_eq_false (by unfold Acc.Ok; simp; omega))
          have q2 : (p == 0) = true := beq_iff_eq.2 (by omega)
          have q3 : (b == 0) = false := beq_eq_false_iff_ne.2 (by omega)
          clear c2 c3
          go_enter Try.func30, Try.ntmps30
          go_wp2_with fail
          refine (mon_any i _).mono ?_; rintro e w' ⟨rfl, rfl⟩
          rw [M0.out]
          go_wp2_with fail
          refine (mon_any h _).mono ?_; rintro e w' ⟨rfl, rfl⟩
          rw [M1.out]
          go_wp2_with fail
          refine (mon_any p _).mono ?_; rintro e w' ⟨rfl, rfl⟩
          rw [M2.out]
          go_wp2_with fail
          refine (mon_any b _).mono ?_; rintro e w' ⟨rfl, rfl⟩
          rw [M3.out]
          go_wp2_with fail
          refine (mon_any d _).mono ?_; rintro e w' ⟨rfl, rfl⟩
          rw [M4.out]
          go_wp2_with fail
          go_ret
          exact ⟨by rw [H.out]; rfl, (Below.refl _ _).alloc (Nat.le_refl _) _⟩
      · have H := Lib.hid (show Acc.ok ⟨n, i, h, false, p, b, d⟩ = false from decide_eq_false (by unfold Acc.Ok; simp; omega))
        have q2 : (p == 0) = false := beq_eq_false_iff_ne.2 (by omega)
        clear c2
        go_enter Try.func30, Try.ntmps30
        go_wp2_with fail
        refine (mon_any i _).mono ?_; rintro e w' ⟨rfl, rfl⟩
        rw [M0.out]
        go_wp2_with fail
        refine (mon_any h _).mono ?_; rintro e w' ⟨rfl, rfl⟩
        rw [M1.out]
        go_wp2_with fail
        refine (mon_any p _).mono ?_; rintro e w' ⟨rfl, rfl⟩
        rw [M2.out]
        go_wp2_with fail
        refine (mon_any b _).mono ?_; rintro e w' ⟨rfl, rfl⟩
        rw [M3.out]
        go_wp2_with fail
        refine (mon_any d _).mono ?_; rintro e w' ⟨rfl, rfl⟩
        rw [M4.out]
        go_wp2_with fail
        go_ret
        exact ⟨by rw [H.out]; rfl, (Below.refl _ _).alloc (Nat.le_refl _) _⟩
    · have H := Lib.hid (show Acc.ok ⟨n, i, h, false, p, b, d⟩ = false from decide_eq_false (by unfold Acc.Ok; simp; omega))
      have q1 : decide (h ≤ i) = false := decide_eq_false c1
      go_enter Try.func30, Try.ntmps30
      go_wp2_with fail
      refine (mon_any i _).mono ?_; rintro e w' ⟨rfl, rfl⟩
      rw [M0.out]
      go_wp2_with fail
      refine (mon_any h _).mono ?_; rintro e w' ⟨rfl, rfl⟩
      rw [M1.out]
      go_wp2_with fail
      refine (mon_any p _).mono ?_; rintro e w' ⟨rfl, rfl⟩
      rw [M2.out]
      go_wp2_with fail
      refine (mon_any b _).mono ?_; rintro e w' ⟨rfl, rfl⟩
      rw [M3.out]
      go_wp2_with fail
      refine (mon_any d _).mono ?_; rintro e w' ⟨rfl, rfl⟩
      rw [M4.out]
      go_wp2_with fail
      go_ret
      exact ⟨by rw [H.out]; rfl, (Below.refl _ _).alloc (Nat.le_refl _) _⟩
  · by_cases c1 : h = 0
    · by_cases c2 : p + b = i
      · by_cases c3 : b = 0
        · have H := Lib.hid (show Acc.ok ⟨n, i, h, true, p, b, d⟩ = true from decide_eq_true (by unfold Acc.Ok; simp; omega))
          have q1 : (h == 0) = true := beq_iff_eq.2 (by omega)
          have q2 : (p + b == i) = true := beq_iff_eq.2 (by omega)
          have q3 : (b == 0) = true := beq_iff_eq.2 (by omega)
          clear c1 c2 c3
          go_enter Try.func30, Try.ntmps30
          go_wp2_with fail
          refine (mon_any i _).mono ?_; rintro e w' ⟨rfl, rfl⟩
          rw [M0.out]
          go_wp2_with fail
          refine (mon_any h _).mono ?_; rintro e w' ⟨rfl, rfl⟩
          rw [M1.out]
          go_wp2_with fail
          refine (mon_any p _).mono ?_; rintro e w' ⟨rfl, rfl⟩
          rw [M2.out]
          go_wp2_with fail
          refine (mon_any b _).mono ?_; rintro e w' ⟨rfl, rfl⟩
          rw [M3.out]
          go_wp2_with fail
          refine (mon_any d _).mono ?_; rintro e w' ⟨rfl, rfl⟩
          rw [M4.out]
          go_wp2_with fail
          go_ret
          exact ⟨by rw [H.out]; rfl, (Below.refl _ _).alloc (Nat.le_refl _) _⟩
        · by_cases c4 : d = 0
          · have H := Lib.hid (show Acc.ok ⟨n, i, h, true, p, b, d⟩ = true from decide_eq_true (by unfold Acc.Ok; simp; omega))
            have q1 : (h == 0) = true := beq_iff_eq.2 (by omega)
            have q2 : (p + b == i) = true := beq_iff_eq.2 (by omega)
            have q3 : (b == 0) = false := beq_eq_false_iff_ne.2 (by omega)
            have q4 : (d == 0) = true := beq_iff_eq.2 (by omega)
            clear c1 c2 c3 c4
            go_enter Try.func30, Try.ntmps30
            go_wp2_with fail
            refine (mon_any i _).mono ?_; rintro e w' ⟨rfl, rfl⟩
            rw [M0.out]
            go_wp2_with fail
            refine (mon_any h _).mono ?_; rintro e w' ⟨rfl, rfl⟩
            rw [M1.out]
            go_wp2_with fail
            refine (mon_any p _).mono ?_; rintro e w' ⟨rfl, rfl⟩
            rw [M2.out]
            go_wp2_with fail
            refine (mon_any b _).mono ?_; rintro e w' ⟨rfl, rfl⟩
            rw [M3.out]
            go_wp2_with fail
            refine (mon_any d _).mono ?_; rintro e w' ⟨rfl, rfl⟩
            rw [M4.out]
            go_wp2_with fail
            go_ret
            exact ⟨by rw [H.out]; rfl, (Below.refl _ _).alloc (Nat.le_refl _) _⟩
          · have H := Lib.hid (show Acc.ok ⟨n, i, h, true, p, b, d⟩ = false from decide_eq_false (by unfold Acc.Ok; simp; omega))
            have q1 : (h == 0) = true := beq_iff_eq.2 (by omega)
            have q2 : (p + b == i) = true := beq_iff_eq.2 (by omega)
            have q3 : (b == 0) = false := beq_eq_false_iff_ne.2 (by omega)
            have q4 : (d == 0) = false := beq_eq_false_iff_ne.2 (by omega)
            clear c1 c2 c3 c4
            go_enter Try.func30, Try.ntmps30
            go_wp2_with fail
            refine (mon_any i _).mono ?_; rintro e w' ⟨rfl, rfl⟩
            rw [M0.out]
            go_wp2_with fail
            refine (mon_any h _).mono ?_; rintro e w' ⟨rfl, rfl⟩
            rw [M1.out]
            go_wp2_with fail
            refine (mon_any p _).mono ?_; rintro e w' ⟨rfl, rfl⟩
            rw [M2.out]
            go_wp2_with fail
            refine (mon_any b _).mono ?_; rintro e w' ⟨rfl, rfl⟩
            rw [M3.out]
            go_wp2_with fail
            refine (mon_any d _).mono ?_; rintro e w' ⟨rfl, rfl⟩
            rw [M4.out]
            go_wp2_with fail
            go_ret
            exact ⟨by rw [H.out]; rfl, (Below.refl _ _).alloc (Nat.le_refl _) _⟩
      · have H := Lib.hid (show Acc.ok ⟨n, i, h, true, p, b, d⟩ = false from decide_eq_false (by unfold Acc.Ok; simp; omega))
        have q1 : (h == 0) = true := beq_iff_eq.2 (by omega)
        have q2 : (p + b == i) = false := beq_eq_false_iff_ne.2 (by omega)
        clear c1 c2
        go_enter Try.func30, Try.ntmps30
        go_wp2_with fail
        refine (mon_any i _).mono ?_; rintro e w' ⟨rfl, rfl⟩
        rw [M0.out]
        go_wp2_with fail
        refine (mon_any h _).mono ?_; rintro e w' ⟨rfl, rfl⟩
        rw [M1.out]
        go_wp2_with fail
        refine (mon_any p _).mono ?_; rintro e w' ⟨rfl, rfl⟩
        rw [M2.out]
        go_wp2_with fail
        refine (mon_any b _).mono ?_; rintro e w' ⟨rfl, rfl⟩
        rw [M3.out]
        go_wp2_with fail
        refine (mon_any d _).mono ?_; rintro e w' ⟨rfl, rfl⟩
        rw [M4.out]
        go_wp2_with fail
        go_ret
        exact ⟨by rw [H.out]; rfl, (Below.refl _ _).alloc (Nat.le_refl _) _⟩
    · have H := Lib.hid (show Acc.ok ⟨n, i, h, true, p, b, d⟩ = false from decide_eq_false (by unfold Acc.Ok; simp; omega))
      have q1 : (h == 0) = false := beq_eq_false_iff_ne.2 (by omega)
      clear c1
      go_enter Try.func30, Try.ntmps30
      go_wp2_with fail
      refine (mon_any i _).mono ?_; rintro e w' ⟨rfl, rfl⟩
      rw [M0.out]
      go_wp2_with fail
      refine (mon_any h _).mono ?_; rintro e w' ⟨rfl, rfl⟩
      rw [M1.out]
      go_wp2_with fail
      refine (mon_any p _).mono ?_; rintro e w' ⟨rfl, rfl⟩
      rw [M2.out]
      go_wp2_with fail
      refine (mon_any b _).mono ?_; rintro e w' ⟨rfl, rfl⟩
      rw [M3.out]
      go_wp2_with fail
      refine (mon_any d _).mono ?_; rintro e w' ⟨rfl, rfl⟩
      rw [M4.out]
      go_wp2_with fail
      go_ret
      exact ⟨by rw [H.out]; rfl, (Below.refl _ _).alloc (Nat.le_refl _) _⟩

end Go.Proofs.Ytmbapehnagpmbaa
