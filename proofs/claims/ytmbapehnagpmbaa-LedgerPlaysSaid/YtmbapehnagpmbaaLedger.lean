/- The contracts of package ledger: sums, Check, Free, change with its four closures, Put, Hold, Let, Settle. -/
import Derived.Test.YtmbapehnagpmbaaMinMax
import Derived.Deep.RegionHeld3
import Derived.Deep.DeepCutAuto
import Derived.BigRegion
import Derived.RegionCalls
namespace Go.Proofs.Ytmbapehnagpmbaa
open Go.RowKit
set_option linter.unusedVariables false

def sumsB (zs : List Int) : Bool := decide (0 ≤ minTo zs (zs.length - 1) ∧ maxTo zs (zs.length - 1) ≤ 1125899906842624)
theorem sums_any (a : Option Addr) (cap : Nat) (zs : List Int) (w : World) (hR : Row64 w a zs) (h1 : 1 ≤ zs.length) (hn : zs.length ≤ 9223372036854775807) :
    Calls Try.prog 21 #[.slice a zs.length cap] w fun e w' => e = .returned (.bool (sumsB zs)) ∧ w = w' := by
  obtain ⟨m, hm⟩ : ∃ m, m = minTo zs (zs.length - 1) := ⟨_, rfl⟩
  obtain ⟨M, hM⟩ : ∃ M, M = maxTo zs (zs.length - 1) := ⟨_, rfl⟩
  have Hm := Lib.hid hm.symm
  have HM := Lib.hid hM.symm
  have hs : sumsB zs = decide (0 ≤ m ∧ M ≤ 1125899906842624) := by unfold sumsB; rw [← hm, ← hM]
  have Hs := Lib.hid hs
  clear hm hM hs
  by_cases c1 : 0 ≤ m
  · by_cases c2 : M ≤ 1125899906842624
    · have H := Lib.hid (show sumsB zs = true by rw [Hs.out]; exact decide_eq_true ⟨c1, c2⟩)
      have c3 : decide (M ≤ 1125899906842624) = true := decide_eq_true c2
      go_enter Try.func21, Try.ntmps21
      go_wp2_with fail
      refine (min_any a cap zs _ hR h1 hn).mono ?_; rintro e w' ⟨rfl, rfl⟩
      rw [Hm.out]
      go_wp2_with fail
      refine (max_any a cap zs _ hR h1 hn).mono ?_; rintro e w' ⟨rfl, rfl⟩
      rw [HM.out]
      go_wp2_with fail
      go_ret
      exact ⟨by rw [H.out]; rfl, rfl⟩
    · have H := Lib.hid (show sumsB zs = false by rw [Hs.out]; exact decide_eq_false (by omega))
      have c3 : decide (M ≤ 1125899906842624) = false := decide_eq_false c2
      go_enter Try.func21, Try.ntmps21
      go_wp2_with fail
      refine (min_any a cap zs _ hR h1 hn).mono ?_; rintro e w' ⟨rfl, rfl⟩
      rw [Hm.out]
      go_wp2_with fail
      refine (max_any a cap zs _ hR h1 hn).mono ?_; rintro e w' ⟨rfl, rfl⟩
      rw [HM.out]
      go_wp2_with fail
      go_ret
      exact ⟨by rw [H.out]; rfl, rfl⟩
  · have H := Lib.hid (show sumsB zs = false by rw [Hs.out]; exact decide_eq_false (by omega))
    have c3 : decide (0 ≤ m) = false := decide_eq_false c1
    go_enter Try.func21, Try.ntmps21
    go_wp2_with fail
    refine (min_any a cap zs _ hR h1 hn).mono ?_; rintro e w' ⟨rfl, rfl⟩
    rw [Hm.out]
    go_wp2_with fail
    go_ret
    exact ⟨by rw [H.out]; rfl, rfl⟩

/-- Is each of the numbers a sum of money? -/
def Money (n : Int) : Prop := 0 ≤ n ∧ n ≤ 1125899906842624
theorem sums_iff (zs : List Int) (h : 1 ≤ zs.length) : sumsB zs = true ↔ ∀ i, i < zs.length → 0 ≤ zs.getD i 0 ∧ zs.getD i 0 ≤ 1125899906842624 := by
  unfold sumsB
  rw [decide_eq_true_eq, minTo_le, le_maxTo]
  constructor
  · intro ⟨h1, h2⟩ i hi
    exact ⟨h1 i (by omega), h2 i (by omega)⟩
  · intro h1
    exact ⟨fun i hi => (h1 i (by omega)).1, fun i hi => (h1 i (by omega)).2⟩

/-- An account, as it lies: bidder, in, held, settled, paid, back, due. -/
structure Acc where
  n : Int
  i : Int
  h : Int
  s : Bool
  p : Int
  b : Int
  d : Int
def Acc.cells (x : Acc) : Array Value := #[.int .i64 x.n, .int .i64 x.i, .int .i64 x.h, .bool x.s, .int .i64 x.p, .int .i64 x.b, .int .i64 x.d]
def Acc.Ok (x : Acc) : Prop := (1 ≤ x.n ∧ x.n ≤ 15) ∧ (0 ≤ x.i ∧ x.i ≤ 1125899906842624) ∧ (0 ≤ x.h ∧ x.h ≤ 1125899906842624) ∧ (0 ≤ x.p ∧ x.p ≤ 1125899906842624) ∧ (0 ≤ x.b ∧ x.b ≤ 1125899906842624) ∧ (0 ≤ x.d ∧ x.d ≤ 1125899906842624) ∧
  (x.s = true → x.h = 0 ∧ x.p + x.b = x.i ∧ (x.b = 0 ∨ x.d = 0)) ∧ (x.s = false → x.h ≤ x.i ∧ x.p = 0 ∧ x.b = 0 ∧ x.d = 0)
instance (x : Acc) : Decidable x.Ok := by unfold Acc.Ok; infer_instance
def Acc.ok (x : Acc) : Bool := decide x.Ok

set_option maxHeartbeats 4000000 in
theorem check_any (n i h : Int) (s : Bool) (p b d : Int) (w : World) :
    Calls Try.prog 16 #[.agg #[.int .i64 n, .int .i64 i, .int .i64 h, .bool s, .int .i64 p, .int .i64 b, .int .i64 d]] w fun e w' => e = .returned (.bool (Acc.ok ⟨n, i, h, s, p, b, d⟩)) ∧ Below w.heap.size w w' := by
  have hR : ∀ W : World, Row64 (W.alloc (.cells #[.int .i64 i, .int .i64 h, .int .i64 p, .int .i64 b, .int .i64 d] 2)) (some ⟨W.heap.size, 0, none⟩) [i, h, p, b, d] := fun W _ => ⟨W.heap.size, 0, rfl, by simp, fun k hk => by
    have hA := (At.new W 2 #[.int .i64 i, .int .i64 h, .int .i64 p, .int .i64 b, .int .i64 d]).cell
    match k, hk with
    | 0, _ => exact hA 0
    | 1, _ => exact hA 1
    | 2, _ => exact hA 2
    | 3, _ => exact hA 3
    | 4, _ => exact hA 4⟩
  by_cases c1 : n < 1
  · have H := Lib.hid (show Acc.ok ⟨n, i, h, s, p, b, d⟩ = false from decide_eq_false (fun hk => by have := hk.1; simp at this; omega))
    go_enter Try.func16, Try.ntmps16
    go_wp2_with fail
    go_ret
    exact ⟨by rw [H.out]; rfl, (Below.refl _ _).alloc (Nat.le_refl _) _⟩
  · by_cases c2 : 15 < n
    · have H := Lib.hid (show Acc.ok ⟨n, i, h, s, p, b, d⟩ = false from decide_eq_false (fun hk => by have := hk.1; simp at this; omega))
      go_enter Try.func16, Try.ntmps16
      go_wp2_with fail
      go_ret
      exact ⟨by rw [H.out]; rfl, (Below.refl _ _).alloc (Nat.le_refl _) _⟩
    · have hsum := sums_iff [i, h, p, b, d] (by simp)
      have big : Acc.Ok ⟨n, i, h, s, p, b, d⟩ → sumsB [i, h, p, b, d] = true := fun hk => hsum.2 fun k hk' => by
        unfold Acc.Ok at hk
        simp only at hk
        match k, hk' with
        | 0, _ => exact hk.2.1
        | 1, _ => exact hk.2.2.1
        | 2, _ => exact hk.2.2.2.1
        | 3, _ => exact hk.2.2.2.2.1
        | 4, _ => exact hk.2.2.2.2.2.1
      cases hb : sumsB [i, h, p, b, d]
      · have HB := Lib.hid hb
        have H := Lib.hid (show Acc.ok ⟨n, i, h, s, p, b, d⟩ = false from decide_eq_false (fun hk => by have := big hk; rw [hb] at this; cases this))
        clear hb big hsum
        go_enter Try.func16, Try.ntmps16
        go_wp2_with fail
        refine (sums_any (some ⟨w.heap.size + 1, 0, none⟩) 5 [i, h, p, b, d] _ ?_ (by simp) (by simp)).mono ?_
        · have h1 := hR (w.alloc (.cells #[.int .i64 n, .int .i64 i, .int .i64 h, .bool s, .int .i64 p, .int .i64 b, .int .i64 d] 24))
          simpa using h1
        rintro e w' ⟨rfl, rfl⟩
        rw [HB.out]
        go_wp2_with fail
        go_ret
        exact ⟨by rw [H.out]; rfl, ((Below.refl _ _).alloc (Nat.le_refl _) _).alloc (by simp) _⟩
      · have HB := Lib.hid hb
        have all := hsum.1 hb
        have m0 := all 0 (by simp)
        have m1 := all 1 (by simp)
        have m2 := all 2 (by simp)
        have m3 := all 3 (by simp)
        have m4 := all 4 (by simp)
        simp at m0 m1 m2 m3 m4
        clear all hb big hsum
        cases s
        · by_cases c3 : h ≤ i
          · by_cases c4 : p = 0 ∧ b = 0 ∧ d = 0
            · obtain ⟨rfl, rfl, rfl⟩ := c4
              have H := Lib.hid (show Acc.ok ⟨n, i, h, false, 0, 0, 0⟩ = true from decide_eq_true (by unfold Acc.Ok; simp; omega))
              go_enter Try.func16, Try.ntmps16
              go_wp2_with fail
              refine (sums_any (some ⟨w.heap.size + 1, 0, none⟩) 5 [i, h, 0, 0, 0] _ ?_ (by simp) (by simp)).mono ?_
              · have h1 := hR (w.alloc (.cells #[.int .i64 n, .int .i64 i, .int .i64 h, .bool false, .int .i64 0, .int .i64 0, .int .i64 0] 24))
                simpa using h1
              rintro e w' ⟨rfl, rfl⟩
              rw [HB.out]
              go_wp2_with fail
              go_ret
              exact ⟨by rw [H.out]; rfl, ((Below.refl _ _).alloc (Nat.le_refl _) _).alloc (by simp) _⟩
            · have c5 : ∃ m, (if (if p < b then b else p) < d then d else (if p < b then b else p)) = m ∧ m ≠ 0 := ⟨_, rfl, by split <;> split <;> omega⟩
              obtain ⟨m, hm, hm0⟩ := c5
              have e5 : (m == 0) = false := beq_eq_false_iff_ne.2 hm0
              have H := Lib.hid (show Acc.ok ⟨n, i, h, false, p, b, d⟩ = false from decide_eq_false (by unfold Acc.Ok; simp; omega))
              go_enter Try.func16, Try.ntmps16
              go_wp2_with fail
              refine (sums_any (some ⟨w.heap.size + 1, 0, none⟩) 5 [i, h, p, b, d] _ ?_ (by simp) (by simp)).mono ?_
              · have h1 := hR (w.alloc (.cells #[.int .i64 n, .int .i64 i, .int .i64 h, .bool false, .int .i64 p, .int .i64 b, .int .i64 d] 24))
                simpa using h1
              rintro e w' ⟨rfl, rfl⟩
              rw [HB.out]
              go_wp2_with fail
              go_ret
              exact ⟨by rw [H.out]; rfl, ((Below.refl _ _).alloc (Nat.le_refl _) _).alloc (by simp) _⟩
          · have c6 : decide (h ≤ i) = false := decide_eq_false c3
            have H := Lib.hid (show Acc.ok ⟨n, i, h, false, p, b, d⟩ = false from decide_eq_false (by unfold Acc.Ok; simp; omega))
            go_enter Try.func16, Try.ntmps16
            go_wp2_with fail
            refine (sums_any (some ⟨w.heap.size + 1, 0, none⟩) 5 [i, h, p, b, d] _ ?_ (by simp) (by simp)).mono ?_
            · have h1 := hR (w.alloc (.cells #[.int .i64 n, .int .i64 i, .int .i64 h, .bool false, .int .i64 p, .int .i64 b, .int .i64 d] 24))
              simpa using h1
            rintro e w' ⟨rfl, rfl⟩
            rw [HB.out]
            go_wp2_with fail
            go_ret
            exact ⟨by rw [H.out]; rfl, ((Below.refl _ _).alloc (Nat.le_refl _) _).alloc (by simp) _⟩
        · by_cases c3 : h = 0
          · have e3 : (h == 0) = true := by rw [c3]; rfl
            by_cases c4 : p + b = i
            · have e4 : (p + b == i) = true := by rw [c4]; exact beq_self_eq_true i
              by_cases c5 : d < b
              · by_cases c6 : d = 0
                · have e6 : (d == 0) = true := by rw [c6]; rfl
                  have H := Lib.hid (show Acc.ok ⟨n, i, h, true, p, b, d⟩ = true from decide_eq_true (by unfold Acc.Ok; simp; omega))
                  clear c3 c4 c6
                  go_enter Try.func16, Try.ntmps16
                  go_wp2_with fail
                  refine (sums_any (some ⟨w.heap.size + 1, 0, none⟩) 5 [i, h, p, b, d] _ ?_ (by simp) (by simp)).mono ?_
                  · have h1 := hR (w.alloc (.cells #[.int .i64 n, .int .i64 i, .int .i64 h, .bool true, .int .i64 p, .int .i64 b, .int .i64 d] 24))
                    simpa using h1
                  rintro e w' ⟨rfl, rfl⟩
                  rw [HB.out]
                  go_wp2_with fail
                  go_ret
                  exact ⟨by rw [H.out]; rfl, ((Below.refl _ _).alloc (Nat.le_refl _) _).alloc (by simp) _⟩
                · have e6 : (d == 0) = false := beq_eq_false_iff_ne.2 c6
                  have H := Lib.hid (show Acc.ok ⟨n, i, h, true, p, b, d⟩ = false from decide_eq_false (by unfold Acc.Ok; simp; omega))
                  clear c3 c4 c6
                  go_enter Try.func16, Try.ntmps16
                  go_wp2_with fail
                  refine (sums_any (some ⟨w.heap.size + 1, 0, none⟩) 5 [i, h, p, b, d] _ ?_ (by simp) (by simp)).mono ?_
                  · have h1 := hR (w.alloc (.cells #[.int .i64 n, .int .i64 i, .int .i64 h, .bool true, .int .i64 p, .int .i64 b, .int .i64 d] 24))
                    simpa using h1
                  rintro e w' ⟨rfl, rfl⟩
                  rw [HB.out]
                  go_wp2_with fail
                  go_ret
                  exact ⟨by rw [H.out]; rfl, ((Below.refl _ _).alloc (Nat.le_refl _) _).alloc (by simp) _⟩
              · by_cases c6 : b = 0
                · have e6 : (b == 0) = true := by rw [c6]; rfl
                  have H := Lib.hid (show Acc.ok ⟨n, i, h, true, p, b, d⟩ = true from decide_eq_true (by unfold Acc.Ok; simp; omega))
                  clear c3 c4 c6
                  go_enter Try.func16, Try.ntmps16
                  go_wp2_with fail
                  refine (sums_any (some ⟨w.heap.size + 1, 0, none⟩) 5 [i, h, p, b, d] _ ?_ (by simp) (by simp)).mono ?_
                  · have h1 := hR (w.alloc (.cells #[.int .i64 n, .int .i64 i, .int .i64 h, .bool true, .int .i64 p, .int .i64 b, .int .i64 d] 24))
                    simpa using h1
                  rintro e w' ⟨rfl, rfl⟩
                  rw [HB.out]
                  go_wp2_with fail
                  go_ret
                  exact ⟨by rw [H.out]; rfl, ((Below.refl _ _).alloc (Nat.le_refl _) _).alloc (by simp) _⟩
                · have e6 : (b == 0) = false := beq_eq_false_iff_ne.2 c6
                  have H := Lib.hid (show Acc.ok ⟨n, i, h, true, p, b, d⟩ = false from decide_eq_false (by unfold Acc.Ok; simp; omega))
                  clear c3 c4 c6
                  go_enter Try.func16, Try.ntmps16
                  go_wp2_with fail
                  refine (sums_any (some ⟨w.heap.size + 1, 0, none⟩) 5 [i, h, p, b, d] _ ?_ (by simp) (by simp)).mono ?_
                  · have h1 := hR (w.alloc (.cells #[.int .i64 n, .int .i64 i, .int .i64 h, .bool true, .int .i64 p, .int .i64 b, .int .i64 d] 24))
                    simpa using h1
                  rintro e w' ⟨rfl, rfl⟩
                  rw [HB.out]
                  go_wp2_with fail
                  go_ret
                  exact ⟨by rw [H.out]; rfl, ((Below.refl _ _).alloc (Nat.le_refl _) _).alloc (by simp) _⟩
            · have e4 : (p + b == i) = false := beq_eq_false_iff_ne.2 c4
              have H := Lib.hid (show Acc.ok ⟨n, i, h, true, p, b, d⟩ = false from decide_eq_false (by unfold Acc.Ok; simp; omega))
              clear c3 c4
              go_enter Try.func16, Try.ntmps16
              go_wp2_with fail
              refine (sums_any (some ⟨w.heap.size + 1, 0, none⟩) 5 [i, h, p, b, d] _ ?_ (by simp) (by simp)).mono ?_
              · have h1 := hR (w.alloc (.cells #[.int .i64 n, .int .i64 i, .int .i64 h, .bool true, .int .i64 p, .int .i64 b, .int .i64 d] 24))
                simpa using h1
              rintro e w' ⟨rfl, rfl⟩
              rw [HB.out]
              go_wp2_with fail
              go_ret
              exact ⟨by rw [H.out]; rfl, ((Below.refl _ _).alloc (Nat.le_refl _) _).alloc (by simp) _⟩
          · have e3 : (h == 0) = false := beq_eq_false_iff_ne.2 c3
            have H := Lib.hid (show Acc.ok ⟨n, i, h, true, p, b, d⟩ = false from decide_eq_false (by unfold Acc.Ok; simp; omega))
            clear c3
            go_enter Try.func16, Try.ntmps16
            go_wp2_with fail
            refine (sums_any (some ⟨w.heap.size + 1, 0, none⟩) 5 [i, h, p, b, d] _ ?_ (by simp) (by simp)).mono ?_
            · have h1 := hR (w.alloc (.cells #[.int .i64 n, .int .i64 i, .int .i64 h, .bool true, .int .i64 p, .int .i64 b, .int .i64 d] 24))
              simpa using h1
            rintro e w' ⟨rfl, rfl⟩
            rw [HB.out]
            go_wp2_with fail
            go_ret
            exact ⟨by rw [H.out]; rfl, ((Below.refl _ _).alloc (Nat.le_refl _) _).alloc (by simp) _⟩

end Go.Proofs.Ytmbapehnagpmbaa
