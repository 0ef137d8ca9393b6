/- The contracts of the reference's Settle of chapter 16 (package vendueref16), and of package ledger's Balanced. -/
import Derived.Test.YtmbapehnagpmbaaLedgerRef2
namespace Go.Proofs.Ytmbapehnagpmbaa
open Go.RowKit
set_option linter.unusedVariables false

set_option maxRecDepth 100000 in
set_option maxHeartbeats 6400000 in
theorem refSettle_any (n i h : Int) (s : Bool) (p b d v : Int) (w : World) :
    Calls Try.prog 29 #[.agg #[.int .i64 n, .int .i64 i, .int .i64 h, .bool s, .int .i64 p, .int .i64 b, .int .i64 d], .int .i64 v] w fun e w' => e = .returned (resV (settleR ⟨n, i, h, s, p, b, d⟩ v)) ∧ Below w.heap.size w w' := by
  cases hc : Acc.ok ⟨n, i, h, s, p, b, d⟩
  · have H := Lib.hid (show settleR ⟨n, i, h, s, p, b, d⟩ v = (zeroAcc, 1) by unfold settleR; rw [if_neg (by rw [hc]; simp)])
    have HC := Lib.hid hc
    clear hc
    go_enter Try.func29, Try.ntmps29
    go_wp2_with fail
    obtain ⟨W1, hW1⟩ : ∃ W1, W1 = (w.alloc (.cells #[.int .i64 n, .int .i64 i, .int .i64 h, .bool s, .int .i64 p, .int .i64 b, .int .i64 d] 24)).alloc (.cells #[.int .i64 0, .int .i64 0, .int .i64 0, .bool false, .int .i64 0, .int .i64 0, .int .i64 0] 24) := ⟨_, rfl⟩
    rw [← hW1]
    obtain ⟨hA, hR, hB⟩ := change_world w W1 n i h s p b d hW1
    clear hW1
    refine (refCheck_any n i h s p b d _).mono ?_; rintro e w1 ⟨rfl, hb1⟩
    rw [HC.out]
    have A1 := hA.step hb1
    have R1 := hR.step hb1
    have B1 := below_step hB hb1
    clear hA hR hB hb1
    have a0 := A1.cell 0
    have af0 := A1.free 0
    have rc0 := R1.cell 0
    have rf0 := R1.free 0
    have a1 := A1.cell 1
    have af1 := A1.free 1
    have rc1 := R1.cell 1
    have rf1 := R1.free 1
    have a2 := A1.cell 2
    have af2 := A1.free 2
    have rc2 := R1.cell 2
    have rf2 := R1.free 2
    have a3 := A1.cell 3
    have af3 := A1.free 3
    have rc3 := R1.cell 3
    have rf3 := R1.free 3
    have a4 := A1.cell 4
    have af4 := A1.free 4
    have rc4 := R1.cell 4
    have rf4 := R1.free 4
    have a5 := A1.cell 5
    have af5 := A1.free 5
    have rc5 := R1.cell 5
    have rf5 := R1.free 5
    have a6 := A1.cell 6
    have af6 := A1.free 6
    have rc6 := R1.cell 6
    have rf6 := R1.free 6
    simp at a0 a1 a2 a3 a4 a5 a6 rc0 rc1 rc2 rc3 rc4 rc5 rc6
    go_wp2_with fail
    have F := put7 R1 (t := 24) (v0 := .int .i64 0) (v1 := .int .i64 0) (v2 := .int .i64 0) (v3 := .bool false) (v4 := .int .i64 0) (v5 := .int .i64 0) (v6 := .int .i64 0)
    have q0 := F.cell 0
    have q1 := F.cell 1
    have q2 := F.cell 2
    have q3 := F.cell 3
    have q4 := F.cell 4
    have q5 := F.cell 5
    have q6 := F.cell 6
    simp at q0 q1 q2 q3 q4 q5 q6
    exact bodyPost_ret (v := .tuple #[.agg #[.int .i64 0, .int .i64 0, .int .i64 0, .bool false, .int .i64 0, .int .i64 0, .int .i64 0], .int .i64 1]) (by simp [results, Try.results29, go_sem, q0, q1, q2, q3, q4, q5, q6]) rfl ⟨by rw [H.out]; rfl, below7 B1 (by simp)⟩
  have HC := Lib.hid hc
  cases hm : monB v
  · have H := Lib.hid (show settleR ⟨n, i, h, s, p, b, d⟩ v = (⟨n, i, h, s, p, b, d⟩, 1) by unfold settleR; rw [if_pos hc, if_neg (mon_no hm)])
    have HM := Lib.hid hm
    clear hc hm
    go_enter Try.func29, Try.ntmps29
    go_wp2_with fail
    obtain ⟨W1, hW1⟩ : ∃ W1, W1 = (w.alloc (.cells #[.int .i64 n, .int .i64 i, .int .i64 h, .bool s, .int .i64 p, .int .i64 b, .int .i64 d] 24)).alloc (.cells #[.int .i64 0, .int .i64 0, .int .i64 0, .bool false, .int .i64 0, .int .i64 0, .int .i64 0] 24) := ⟨_, rfl⟩
    rw [← hW1]
    obtain ⟨hA, hR, hB⟩ := change_world w W1 n i h s p b d hW1
    clear hW1
    refine (refCheck_any n i h s p b d _).mono ?_; rintro e w1 ⟨rfl, hb1⟩
    rw [HC.out]
    have A1 := hA.step hb1
    have R1 := hR.step hb1
    have B1 := below_step hB hb1
    clear hA hR hB hb1
    have a0 := A1.cell 0
    have af0 := A1.free 0
    have rc0 := R1.cell 0
    have rf0 := R1.free 0
    have a1 := A1.cell 1
    have af1 := A1.free 1
    have rc1 := R1.cell 1
    have rf1 := R1.free 1
    have a2 := A1.cell 2
    have af2 := A1.free 2
    have rc2 := R1.cell 2
    have rf2 := R1.free 2
    have a3 := A1.cell 3
    have af3 := A1.free 3
    have rc3 := R1.cell 3
    have rf3 := R1.free 3
    have a4 := A1.cell 4
    have af4 := A1.free 4
    have rc4 := R1.cell 4
    have rf4 := R1.free 4
    have a5 := A1.cell 5
    have af5 := A1.free 5
    have rc5 := R1.cell 5
    have rf5 := R1.free 5
    have a6 := A1.cell 6
    have af6 := A1.free 6
    have rc6 := R1.cell 6
    have rf6 := R1.free 6
    simp at a0 a1 a2 a3 a4 a5 a6 rc0 rc1 rc2 rc3 rc4 rc5 rc6
    go_wp2_with fail
    refine (mon_any v _).mono ?_; rintro e w' ⟨rfl, rfl⟩
    rw [HM.out]
    go_wp2_with fail
    have F := put7 R1 (t := 24) (v0 := .int .i64 n) (v1 := .int .i64 i) (v2 := .int .i64 h) (v3 := .bool s) (v4 := .int .i64 p) (v5 := .int .i64 b) (v6 := .int .i64 d)
    have q0 := F.cell 0
    have q1 := F.cell 1
    have q2 := F.cell 2
    have q3 := F.cell 3
    have q4 := F.cell 4
    have q5 := F.cell 5
    have q6 := F.cell 6
    simp at q0 q1 q2 q3 q4 q5 q6
    exact bodyPost_ret (v := .tuple #[.agg #[.int .i64 n, .int .i64 i, .int .i64 h, .bool s, .int .i64 p, .int .i64 b, .int .i64 d], .int .i64 1]) (by simp [results, Try.results29, go_sem, q0, q1, q2, q3, q4, q5, q6]) rfl ⟨by rw [H.out]; rfl, below7 B1 (by simp)⟩
  have HM := Lib.hid hm
  have hv := mon_yes hm
  clear hm
  cases s
  · obtain ⟨⟨i0, i1⟩, ⟨h0, h1⟩, hp, hb, hd⟩ := good_open hc
    subst hp hb hd
    by_cases ho : v ≤ i
    · have H := Lib.hid (show settleR ⟨n, i, h, false, 0, 0, 0⟩ v = (⟨n, i, 0, true, v, i - v, 0⟩, 0) by
        have e : (if v < i then v else i) = v := by split <;> omega
        unfold settleR
        rw [if_pos hc, if_pos hv, if_neg (by simp), e, Int.sub_self])
      clear hc
      go_enter Try.func29, Try.ntmps29
      go_wp2_with fail
      obtain ⟨W1, hW1⟩ : ∃ W1, W1 = (w.alloc (.cells #[.int .i64 n, .int .i64 i, .int .i64 h, .bool false, .int .i64 0, .int .i64 0, .int .i64 0] 24)).alloc (.cells #[.int .i64 0, .int .i64 0, .int .i64 0, .bool false, .int .i64 0, .int .i64 0, .int .i64 0] 24) := ⟨_, rfl⟩
      rw [← hW1]
      obtain ⟨hA, hR, hB⟩ := change_world w W1 n i h false 0 0 0 hW1
      clear hW1
      refine (refCheck_any n i h false 0 0 0 _).mono ?_; rintro e w1 ⟨rfl, hb1⟩
      rw [HC.out]
      have A1 := hA.step hb1
      have R1 := hR.step hb1
      have B1 := below_step hB hb1
      clear hA hR hB hb1
      have a0 := A1.cell 0
      have af0 := A1.free 0
      have rc0 := R1.cell 0
      have rf0 := R1.free 0
      have a1 := A1.cell 1
      have af1 := A1.free 1
      have rc1 := R1.cell 1
      have rf1 := R1.free 1
      have a2 := A1.cell 2
      have af2 := A1.free 2
      have rc2 := R1.cell 2
      have rf2 := R1.free 2
      have a3 := A1.cell 3
      have af3 := A1.free 3
      have rc3 := R1.cell 3
      have rf3 := R1.free 3
      have a4 := A1.cell 4
      have af4 := A1.free 4
      have rc4 := R1.cell 4
      have rf4 := R1.free 4
      have a5 := A1.cell 5
      have af5 := A1.free 5
      have rc5 := R1.cell 5
      have rf5 := R1.free 5
      have a6 := A1.cell 6
      have af6 := A1.free 6
      have rc6 := R1.cell 6
      have rf6 := R1.free 6
      simp at a0 a1 a2 a3 a4 a5 a6 rc0 rc1 rc2 rc3 rc4 rc5 rc6
      go_wp2_with fail
      refine (mon_any v _).mono ?_; rintro e w' ⟨rfl, rfl⟩
      rw [HM.out]
      have AF := ((((A1.put 3 (.bool true)).put 2 (.int .i64 0)).put 4 (.int .i64 v)).put 5 (.int .i64 (i - v)))
      have g0 := AF.cell 0
      have g1 := AF.cell 1
      have g2 := AF.cell 2
      have g3 := AF.cell 3
      have g4 := AF.cell 4
      have g5 := AF.cell 5
      have g6 := AF.cell 6
      simp at g0 g1 g2 g3 g4 g5 g6
      go_wp2_with fail
      have F := put7 ((((R1.far (p := ⟨w.heap.size, 3, none⟩) (by simp) (.bool true)).far (p := ⟨w.heap.size, 2, none⟩) (by simp) (.int .i64 0)).far (p := ⟨w.heap.size, 4, none⟩) (by simp) (.int .i64 v)).far (p := ⟨w.heap.size, 5, none⟩) (by simp) (.int .i64 (i - v))) (t := 24) (v0 := .int .i64 n) (v1 := .int .i64 i) (v2 := .int .i64 0) (v3 := .bool true) (v4 := .int .i64 v) (v5 := .int .i64 (i - v)) (v6 := .int .i64 0)
      have q0 := F.cell 0
      have q1 := F.cell 1
      have q2 := F.cell 2
      have q3 := F.cell 3
      have q4 := F.cell 4
      have q5 := F.cell 5
      have q6 := F.cell 6
      simp at q0 q1 q2 q3 q4 q5 q6
      exact bodyPost_ret (v := .tuple #[.agg #[.int .i64 n, .int .i64 i, .int .i64 0, .bool true, .int .i64 v, .int .i64 (i - v), .int .i64 0], .int .i64 0]) (by simp [results, Try.results29, go_sem, q0, q1, q2, q3, q4, q5, q6]) rfl ⟨by rw [H.out]; rfl, below7 ((((B1.setCell (p := ⟨w.heap.size, 3, none⟩) (Nat.le_refl _) (.bool true)).setCell (p := ⟨w.heap.size, 2, none⟩) (Nat.le_refl _) (.int .i64 0)).setCell (p := ⟨w.heap.size, 4, none⟩) (Nat.le_refl _) (.int .i64 v)).setCell (p := ⟨w.heap.size, 5, none⟩) (Nat.le_refl _) (.int .i64 (i - v))) (by simp)⟩
    · have H := Lib.hid (show settleR ⟨n, i, h, false, 0, 0, 0⟩ v = (⟨n, i, 0, true, i, 0, v - i⟩, 0) by
        unfold settleR
        have e : (if v < i then v else i) = i := by split <;> omega
        rw [if_pos hc, if_pos hv, if_neg (by simp), e, Int.sub_self])
      clear hc
      go_enter Try.func29, Try.ntmps29
      go_wp2_with fail
      obtain ⟨W1, hW1⟩ : ∃ W1, W1 = (w.alloc (.cells #[.int .i64 n, .int .i64 i, .int .i64 h, .bool false, .int .i64 0, .int .i64 0, .int .i64 0] 24)).alloc (.cells #[.int .i64 0, .int .i64 0, .int .i64 0, .bool false, .int .i64 0, .int .i64 0, .int .i64 0] 24) := ⟨_, rfl⟩
      rw [← hW1]
      obtain ⟨hA, hR, hB⟩ := change_world w W1 n i h false 0 0 0 hW1
      clear hW1
      refine (refCheck_any n i h false 0 0 0 _).mono ?_; rintro e w1 ⟨rfl, hb1⟩
      rw [HC.out]
      have A1 := hA.step hb1
      have R1 := hR.step hb1
      have B1 := below_step hB hb1
      clear hA hR hB hb1
      have a0 := A1.cell 0
      have af0 := A1.free 0
      have rc0 := R1.cell 0
      have rf0 := R1.free 0
      have a1 := A1.cell 1
      have af1 := A1.free 1
      have rc1 := R1.cell 1
      have rf1 := R1.free 1
      have a2 := A1.cell 2
      have af2 := A1.free 2
      have rc2 := R1.cell 2
      have rf2 := R1.free 2
      have a3 := A1.cell 3
      have af3 := A1.free 3
      have rc3 := R1.cell 3
      have rf3 := R1.free 3
      have a4 := A1.cell 4
      have af4 := A1.free 4
      have rc4 := R1.cell 4
      have rf4 := R1.free 4
      have a5 := A1.cell 5
      have af5 := A1.free 5
      have rc5 := R1.cell 5
      have rf5 := R1.free 5
      have a6 := A1.cell 6
      have af6 := A1.free 6
      have rc6 := R1.cell 6
      have rf6 := R1.free 6
      simp at a0 a1 a2 a3 a4 a5 a6 rc0 rc1 rc2 rc3 rc4 rc5 rc6
      go_wp2_with fail
      refine (mon_any v _).mono ?_; rintro e w' ⟨rfl, rfl⟩
      rw [HM.out]
      have AF := ((((A1.put 3 (.bool true)).put 2 (.int .i64 0)).put 4 (.int .i64 i)).put 6 (.int .i64 (v - i)))
      have g0 := AF.cell 0
      have g1 := AF.cell 1
      have g2 := AF.cell 2
      have g3 := AF.cell 3
      have g4 := AF.cell 4
      have g5 := AF.cell 5
      have g6 := AF.cell 6
      simp at g0 g1 g2 g3 g4 g5 g6
      go_wp2_with fail
      have F := put7 ((((R1.far (p := ⟨w.heap.size, 3, none⟩) (by simp) (.bool true)).far (p := ⟨w.heap.size, 2, none⟩) (by simp) (.int .i64 0)).far (p := ⟨w.heap.size, 4, none⟩) (by simp) (.int .i64 i)).far (p := ⟨w.heap.size, 6, none⟩) (by simp) (.int .i64 (v - i))) (t := 24) (v0 := .int .i64 n) (v1 := .int .i64 i) (v2 := .int .i64 0) (v3 := .bool true) (v4 := .int .i64 i) (v5 := .int .i64 0) (v6 := .int .i64 (v - i))
      have q0 := F.cell 0
      have q1 := F.cell 1
      have q2 := F.cell 2
      have q3 := F.cell 3
      have q4 := F.cell 4
      have q5 := F.cell 5
      have q6 := F.cell 6
      simp at q0 q1 q2 q3 q4 q5 q6
      exact bodyPost_ret (v := .tuple #[.agg #[.int .i64 n, .int .i64 i, .int .i64 0, .bool true, .int .i64 i, .int .i64 0, .int .i64 (v - i)], .int .i64 0]) (by simp [results, Try.results29, go_sem, q0, q1, q2, q3, q4, q5, q6]) rfl ⟨by rw [H.out]; rfl, below7 ((((B1.setCell (p := ⟨w.heap.size, 3, none⟩) (Nat.le_refl _) (.bool true)).setCell (p := ⟨w.heap.size, 2, none⟩) (Nat.le_refl _) (.int .i64 0)).setCell (p := ⟨w.heap.size, 4, none⟩) (Nat.le_refl _) (.int .i64 i)).setCell (p := ⟨w.heap.size, 6, none⟩) (Nat.le_refl _) (.int .i64 (v - i))) (by simp)⟩
  · have H := Lib.hid (show settleR ⟨n, i, h, true, p, b, d⟩ v = (⟨n, i, h, true, p, b, d⟩, 13) by unfold settleR; rw [if_pos hc, if_pos hv, if_pos rfl])
    clear hc
    go_enter Try.func29, Try.ntmps29
    go_wp2_with fail
    obtain ⟨W1, hW1⟩ : ∃ W1, W1 = (w.alloc (.cells #[.int .i64 n, .int .i64 i, .int .i64 h, .bool true, .int .i64 p, .int .i64 b, .int .i64 d] 24)).alloc (.cells #[.int .i64 0, .int .i64 0, .int .i64 0, .bool false, .int .i64 0, .int .i64 0, .int .i64 0] 24) := ⟨_, rfl⟩
    rw [← hW1]
    obtain ⟨hA, hR, hB⟩ := change_world w W1 n i h true p b d hW1
    clear hW1
    refine (refCheck_any n i h true p b d _).mono ?_; rintro e w1 ⟨rfl, hb1⟩
    rw [HC.out]
    have A1 := hA.step hb1
    have R1 := hR.step hb1
    have B1 := below_step hB hb1
    clear hA hR hB hb1
    have a0 := A1.cell 0
    have af0 := A1.free 0
    have rc0 := R1.cell 0
    have rf0 := R1.free 0
    have a1 := A1.cell 1
    have af1 := A1.free 1
    have rc1 := R1.cell 1
    have rf1 := R1.free 1
    have a2 := A1.cell 2
    have af2 := A1.free 2
    have rc2 := R1.cell 2
    have rf2 := R1.free 2
    have a3 := A1.cell 3
    have af3 := A1.free 3
    have rc3 := R1.cell 3
    have rf3 := R1.free 3
    have a4 := A1.cell 4
    have af4 := A1.free 4
    have rc4 := R1.cell 4
    have rf4 := R1.free 4
    have a5 := A1.cell 5
    have af5 := A1.free 5
    have rc5 := R1.cell 5
    have rf5 := R1.free 5
    have a6 := A1.cell 6
    have af6 := A1.free 6
    have rc6 := R1.cell 6
    have rf6 := R1.free 6
    simp at a0 a1 a2 a3 a4 a5 a6 rc0 rc1 rc2 rc3 rc4 rc5 rc6
    go_wp2_with fail
    refine (mon_any v _).mono ?_; rintro e w' ⟨rfl, rfl⟩
    rw [HM.out]
    go_wp2_with fail
    have F := put7 R1 (t := 24) (v0 := .int .i64 n) (v1 := .int .i64 i) (v2 := .int .i64 h) (v3 := .bool true) (v4 := .int .i64 p) (v5 := .int .i64 b) (v6 := .int .i64 d)
    have q0 := F.cell 0
    have q1 := F.cell 1
    have q2 := F.cell 2
    have q3 := F.cell 3
    have q4 := F.cell 4
    have q5 := F.cell 5
    have q6 := F.cell 6
    simp at q0 q1 q2 q3 q4 q5 q6
    exact bodyPost_ret (v := .tuple #[.agg #[.int .i64 n, .int .i64 i, .int .i64 h, .bool true, .int .i64 p, .int .i64 b, .int .i64 d], .int .i64 13]) (by simp [results, Try.results29, go_sem, q0, q1, q2, q3, q4, q5, q6]) rfl ⟨by rw [H.out]; rfl, below7 B1 (by simp)⟩

end Go.Proofs.Ytmbapehnagpmbaa
