/- The contracts of slices.Min and slices.Max over int64: the least and the greatest of numbers that are there. -/
import Derived.Test.YtmbapehnagpmbaaSum
namespace Go.Proofs.Ytmbapehnagpmbaa
open Go.RowKit
set_option linter.unusedVariables false

/-- The least, the greatest of the first k + 1 numbers. -/
def minTo (zs : List Int) : Nat → Int
  | 0 => zs.getD 0 0
  | k + 1 => if zs.getD (k + 1) 0 < minTo zs k then zs.getD (k + 1) 0 else minTo zs k
def maxTo (zs : List Int) : Nat → Int
  | 0 => zs.getD 0 0
  | k + 1 => if maxTo zs k < zs.getD (k + 1) 0 then zs.getD (k + 1) 0 else maxTo zs k
theorem minTo_le (zs : List Int) (b : Int) : ∀ k, b ≤ minTo zs k ↔ ∀ i, i ≤ k → b ≤ zs.getD i 0 := by
  intro k
  induction k with
  | zero =>
    refine ⟨fun h i hi => ?_, fun h => h 0 (Nat.le_refl _)⟩
    obtain rfl : i = 0 := by omega
    exact h
  | succ k ih =>
    unfold minTo
    constructor
    · intro h i hi
      by_cases e : i = k + 1
      · subst e
        split at h <;> omega
      · exact ih.1 (by split at h <;> omega) i (by omega)
    · intro h
      have h1 := ih.2 (fun i hi => h i (by omega))
      have h2 := h (k + 1) (Nat.le_refl _)
      split <;> omega
theorem le_maxTo (zs : List Int) (b : Int) : ∀ k, maxTo zs k ≤ b ↔ ∀ i, i ≤ k → zs.getD i 0 ≤ b := by
  intro k
  induction k with
  | zero =>
    refine ⟨fun h i hi => ?_, fun h => h 0 (Nat.le_refl _)⟩
    obtain rfl : i = 0 := by omega
    exact h
  | succ k ih =>
    unfold maxTo
    constructor
    · intro h i hi
      by_cases e : i = k + 1
      · subst e
        split at h <;> omega
      · exact ih.1 (by split at h <;> omega) i (by omega)
    · intro h
      have h1 := ih.2 (fun i hi => h i (by omega))
      have h2 := h (k + 1) (Nat.le_refl _)
      split <;> omega

theorem min_any (a : Option Addr) (cap : Nat) (zs : List Int) (w : World) (hR : Row64 w a zs) (h1 : 1 ≤ zs.length) (hn : zs.length ≤ 9223372036854775807) :
    Calls Try.prog 41 #[.slice a zs.length cap] w fun e w' => e = .returned (.int .i64 (minTo zs (zs.length - 1))) ∧ w = w' := by
  obtain ⟨b, o, rfl, hb, hcells⟩ := hR (by omega)
  have c0 := hcells 0 (by omega)
  obtain ⟨n, hnn⟩ : ∃ n, n = zs.length := ⟨_, rfl⟩
  rw [← hnn]
  have HN := Lib.hid hnn
  rw [← hnn] at hn h1
  clear hnn
  have HC := Lib.hid hcells
  clear hcells hR
  simp only [Nat.add_zero] at c0
  have p1 : ¬ (n : Int) < 1 := by omega
  have p2 : (0 : Int) < (n : Int) := by omega
  go_enter Try.func41, Try.ntmps41
  go_wp2_with fail
  go_loop [3, 4] (fun m i => ∃ k : Nat, k < n ∧ i = .int .i64 ((k : Int) + 1) ∧ m = .int .i64 (minTo zs k)) (fun _ i => n - (intOf i).toNat)
  case atStart => exact ⟨0, by omega, rfl, rfl⟩
  case round =>
    obtain ⟨k, hk, rfl, rfl⟩ := hrel
    by_cases hlt : k + 1 < n
    · have c := HC.out (k + 1) (by rw [← HN.out]; exact hlt)
      have hm := Lib.hid (show minTo zs (k + 1) = if zs.getD (k + 1) 0 < minTo zs k then zs.getD (k + 1) 0 else minTo zs k from rfl)
      generalize zs.getD (k + 1) 0 = x at *
      generalize hM : minTo zs k = M at *
      have HM := Lib.hid hM
      clear hM
      have q1 : (k : Int) + 1 < (n : Int) := by omega
      have q2 : 0 ≤ (k : Int) + 1 := by omega
      have e1 : o + (k + 1) = o + ((k : Int) + 1).toNat := by omega
      rw [e1] at c
      go_wp2_with fail
      refine ⟨⟨k + 1, hlt, by go_num, by rw [hm.out]⟩, ?_⟩
      simp [intOf]
      omega
    · obtain rfl : n = k + 1 := by omega
      have hq : ¬ (k : Int) + 1 < ((k + 1 : Nat) : Int) := by omega
      go_wp2_with fail
      go_ret
      exact ⟨rfl, rfl⟩

theorem max_any (a : Option Addr) (cap : Nat) (zs : List Int) (w : World) (hR : Row64 w a zs) (h1 : 1 ≤ zs.length) (hn : zs.length ≤ 9223372036854775807) :
    Calls Try.prog 42 #[.slice a zs.length cap] w fun e w' => e = .returned (.int .i64 (maxTo zs (zs.length - 1))) ∧ w = w' := by
  obtain ⟨b, o, rfl, hb, hcells⟩ := hR (by omega)
  have c0 := hcells 0 (by omega)
  obtain ⟨n, hnn⟩ : ∃ n, n = zs.length := ⟨_, rfl⟩
  rw [← hnn]
  have HN := Lib.hid hnn
  rw [← hnn] at hn h1
  clear hnn
  have HC := Lib.hid hcells
  clear hcells hR
  simp only [Nat.add_zero] at c0
  have p1 : ¬ (n : Int) < 1 := by omega
  have p2 : (0 : Int) < (n : Int) := by omega
  go_enter Try.func42, Try.ntmps42
  go_wp2_with fail
  go_loop [3, 4] (fun m i => ∃ k : Nat, k < n ∧ i = .int .i64 ((k : Int) + 1) ∧ m = .int .i64 (maxTo zs k)) (fun _ i => n - (intOf i).toNat)
  case atStart => exact ⟨0, by omega, rfl, rfl⟩
  case round =>
    obtain ⟨k, hk, rfl, rfl⟩ := hrel
    by_cases hlt : k + 1 < n
    · have c := HC.out (k + 1) (by rw [← HN.out]; exact hlt)
      have hm := Lib.hid (show maxTo zs (k + 1) = if maxTo zs k < zs.getD (k + 1) 0 then zs.getD (k + 1) 0 else maxTo zs k from rfl)
      generalize zs.getD (k + 1) 0 = x at *
      generalize hM : maxTo zs k = M at *
      have HM := Lib.hid hM
      clear hM
      have q1 : (k : Int) + 1 < (n : Int) := by omega
      have q2 : 0 ≤ (k : Int) + 1 := by omega
      have e1 : o + (k + 1) = o + ((k : Int) + 1).toNat := by omega
      rw [e1] at c
      go_wp2_with fail
      refine ⟨⟨k + 1, hlt, by go_num, by rw [hm.out]⟩, ?_⟩
      simp [intOf]
      omega
    · obtain rfl : n = k + 1 := by omega
      have hq : ¬ (k : Int) + 1 < ((k + 1 : Nat) : Int) := by omega
      go_wp2_with fail
      go_ret
      exact ⟨rfl, rfl⟩
end Go.Proofs.Ytmbapehnagpmbaa
