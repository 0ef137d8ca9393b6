/- The contract of Settle as one, and of chapter 16's awake. -/
import Derived.Test.YtmbapehnagpmbaaLedgerSettle
namespace Go.Proofs.Ytmbapehnagpmbaa
open Go.RowKit
set_option linter.unusedVariables false

theorem settleOp_any (n i h : Int) (s : Bool) (p b d v : Int) (w : World) :
    Calls Try.prog 9 #[.agg #[.int .i64 n, .int .i64 i, .int .i64 h, .bool s, .int .i64 p, .int .i64 b, .int .i64 d], .int .i64 v] w fun e w' => e = .returned (resV (settleR ⟨n, i, h, s, p, b, d⟩ v)) ∧ Below w.heap.size w w' := by
  cases hc : Acc.ok ⟨n, i, h, s, p, b, d⟩
  · have H : settleR ⟨n, i, h, s, p, b, d⟩ v = (zeroAcc, 1) := by unfold settleR; rw [if_neg (by rw [hc]; simp)]
    rw [H]
    exact settleOp_bad n i h s p b d v _ w hc rfl
  · cases hm : sumsB [v]
    · have hn : ¬ (0 ≤ v ∧ v ≤ 1125899906842624) := fun hk => by rw [(sums_one v).2 hk] at hm; cases hm
      have H : settleR ⟨n, i, h, s, p, b, d⟩ v = (⟨n, i, h, s, p, b, d⟩, 1) := by unfold settleR; rw [if_pos hc, if_neg hn]
      rw [H]
      exact settleOp_no n i h s p b d v w hc hm
    · have hn := (sums_one v).1 hm
      cases s
      · have H : settleR ⟨n, i, h, false, p, b, d⟩ v = (⟨n, i, 0, true, (if v < i then v else i), i - (if v < i then v else i), v - (if v < i then v else i)⟩, 0) := by unfold settleR; rw [if_pos hc, if_pos hn, if_neg (by simp)]
        rw [H]
        exact settleOp_yes n i h p b d v w hc hm _ rfl
      · have H : settleR ⟨n, i, h, true, p, b, d⟩ v = (⟨n, i, h, true, p, b, d⟩, 13) := by unfold settleR; rw [if_pos hc, if_pos hn, if_pos rfl]
        rw [H]
        exact settleOp_set n i h p b d v w hc hm

theorem settle_first : settleR ⟨1, 100, 0, false, 0, 0, 0⟩ 120 = (⟨1, 100, 0, true, 100, 0, 20⟩, 0) := by
  have hc : Acc.ok ⟨1, 100, 0, false, 0, 0, 0⟩ = true := decide_eq_true (by unfold Acc.Ok; simp)
  unfold settleR
  rw [if_pos hc, if_pos (by omega), if_neg (by simp)]
  rfl
theorem awake_any (w : World) :
    Calls Try.prog 8 #[] w fun e w' => e = .returned (.bool true) ∧ Below w.heap.size w w' := by
  have n1 := Lib.hid settle_first
  go_enter Try.func8, Try.ntmps8
  go_wp2_with fail
  refine (settleOp_any 1 100 0 false 0 0 0 120 _).mono ?_; rintro e w1 ⟨rfl, hb1⟩
  rw [n1.out]
  unfold resV
  go_wp2_with fail
  go_ret
  exact ⟨rfl, hb1.alloc hb1.size _⟩
end Go.Proofs.Ytmbapehnagpmbaa
