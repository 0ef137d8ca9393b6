/- The contracts of the reference's Free, Balanced, Put, Hold, Let and Settle of chapter 16 (package vendueref16), and of package ledger's Balanced. -/
import Derived.Test.YtmbapehnagpmbaaLedgerRef
import Derived.Outline
namespace Go.Proofs.Ytmbapehnagpmbaa
open Go.RowKit
set_option linter.unusedVariables false
theorem cells7 {w : World} {g : Nat} {t : TypeId} {v0 v1 v2 v3 v4 v5 v6 : Value} (h : At w g t #[v0, v1, v2, v3, v4, v5, v6]) :
    w.cell? ⟨g, 0, none⟩ = some v0 ∧ w.cell? ⟨g, 1, none⟩ = some v1 ∧ w.cell? ⟨g, 2, none⟩ = some v2 ∧ w.cell? ⟨g, 3, none⟩ = some v3 ∧ w.cell? ⟨g, 4, none⟩ = some v4 ∧ w.cell? ⟨g, 5, none⟩ = some v5 ∧ w.cell? ⟨g, 6, none⟩ = some v6 :=
  ⟨h.cell 0, h.cell 1, h.cell 2, h.cell 3, h.cell 4, h.cell 5, h.cell 6⟩

theorem refFree_any (n i h : Int) (s : Bool) (p b d : Int) (w : World) :
    Calls Try.prog 31 #[.agg #[.int .i64 n, .int .i64 i, .int .i64 h, .bool s, .int .i64 p, .int .i64 b, .int .i64 d]] w fun e w' => e = .returned (.int .i64 (freeV n i h s p b d)) ∧ Below w.heap.size w w' := by
  cases hc : Acc.ok ⟨n, i, h, s, p, b, d⟩
  · have H := Lib.hid (show freeV n i h s p b d = 0 by unfold freeV; rw [if_neg (by rw [hc]; simp)])
    have HC := Lib.hid hc
    clear hc
    go_enter Try.func31, Try.ntmps31
    go_wp2_with fail
    refine (refCheck_any n i h s p b d _).mono ?_; rintro e w1 ⟨rfl, hb1⟩
    rw [HC.out]
    obtain ⟨c0, c1, c2, c3, c4, c5, c6⟩ := cells7 ((At.new w 24 #[.int .i64 n, .int .i64 i, .int .i64 h, .bool s, .int .i64 p, .int .i64 b, .int .i64 d]).step hb1)
    have B1 := below_step ((Below.refl _ _).alloc (Nat.le_refl _) _) hb1
    clear hb1
    go_wp2_with fail
    go_ret
    exact ⟨by rw [H.out]; rfl, B1⟩
  · have HC := Lib.hid hc
    have hk := acc_ok hc
    have k1 : 0 ≤ i ∧ i ≤ 1125899906842624 := hk.2.1
    have k2 : 0 ≤ h ∧ h ≤ 1125899906842624 := hk.2.2.1
    cases s
    · have H := Lib.hid (show freeV n i h false p b d = i - h by unfold freeV; rw [if_pos ⟨hc, rfl⟩])
      clear hc hk
      go_enter Try.func31, Try.ntmps31
      go_wp2_with fail
      refine (refCheck_any n i h false p b d _).mono ?_; rintro e w1 ⟨rfl, hb1⟩
      rw [HC.out]
      obtain ⟨c0, c1, c2, c3, c4, c5, c6⟩ := cells7 ((At.new w 24 #[.int .i64 n, .int .i64 i, .int .i64 h, .bool false, .int .i64 p, .int .i64 b, .int .i64 d]).step hb1)
      have B1 := below_step ((Below.refl _ _).alloc (Nat.le_refl _) _) hb1
      clear hb1
      go_wp2_with fail
      go_ret
      exact ⟨by rw [H.out]; rfl, B1⟩
    · have H := Lib.hid (show freeV n i h true p b d = 0 by unfold freeV; rw [if_neg (by simp)])
      clear hc hk
      go_enter Try.func31, Try.ntmps31
      go_wp2_with fail
      refine (refCheck_any n i h true p b d _).mono ?_; rintro e w1 ⟨rfl, hb1⟩
      rw [HC.out]
      obtain ⟨c0, c1, c2, c3, c4, c5, c6⟩ := cells7 ((At.new w 24 #[.int .i64 n, .int .i64 i, .int .i64 h, .bool true, .int .i64 p, .int .i64 b, .int .i64 d]).step hb1)
      have B1 := below_step ((Below.refl _ _).alloc (Nat.le_refl _) _) hb1
      clear hb1
      go_wp2_with fail
      go_ret
      exact ⟨by rw [H.out]; rfl, B1⟩

theorem good_open {n i h p b d : Int} (hc : Acc.ok ⟨n, i, h, false, p, b, d⟩ = true) : (0 ≤ i ∧ i ≤ 1125899906842624) ∧ (0 ≤ h ∧ h ≤ i) ∧ p = 0 ∧ b = 0 ∧ d = 0 := by
  have hk := acc_ok hc
  unfold Acc.Ok at hk
  simp at hk
  omega
theorem good_set {n i h p b d : Int} (hc : Acc.ok ⟨n, i, h, true, p, b, d⟩ = true) : (0 ≤ i ∧ i ≤ 1125899906842624) ∧ h = 0 ∧ (0 ≤ p ∧ p ≤ 1125899906842624) ∧ (0 ≤ b ∧ b ≤ 1125899906842624) ∧ (0 ≤ d ∧ d ≤ 1125899906842624) ∧ p + b = i := by
  have hk := acc_ok hc
  unfold Acc.Ok at hk
  simp at hk
  omega

set_option maxHeartbeats 3200000 in
theorem refBal_any (n i h : Int) (s : Bool) (p b d : Int) (w : World) :
    Calls Try.prog 32 #[.agg #[.int .i64 n, .int .i64 i, .int .i64 h, .bool s, .int .i64 p, .int .i64 b, .int .i64 d]] w fun e w' => e = .returned (.bool (Acc.ok ⟨n, i, h, s, p, b, d⟩)) ∧ Below w.heap.size w w' := by
  cases hc : Acc.ok ⟨n, i, h, s, p, b, d⟩
  · have HC := Lib.hid hc
    clear hc
    go_enter Try.func32, Try.ntmps32
    go_wp2_with fail
    refine (refCheck_any n i h s p b d _).mono ?_; rintro e w1 ⟨rfl, hb1⟩
    rw [HC.out]
    go_wp2_with fail
    go_ret
    exact ⟨rfl, below_step ((Below.refl _ _).alloc (Nat.le_refl _) _) hb1⟩
  · have HC := Lib.hid hc
    cases s
    · obtain ⟨⟨i0, i1⟩, ⟨h0, h1⟩, hp, hb, hd⟩ := good_open hc
      have FV := Lib.hid (show freeV n i h false p b d = i - h by unfold freeV; rw [if_pos ⟨hc, rfl⟩])
      have w9 : IntKind.i64.wrap (h + (i - h)) = i := by rw [IntWalk.i64_in _ ⟨by omega, by omega⟩]; omega
      have z1 : (i == i) = true := beq_self_eq_true i
      clear hc hp hb hd
      go_enter Try.func32, Try.ntmps32
      go_wp2_with fail
      refine (refCheck_any n i h false p b d _).mono ?_; rintro e w1 ⟨rfl, hb1⟩
      rw [HC.out]
      have AW := (At.new w 24 #[.int .i64 n, .int .i64 i, .int .i64 h, .bool false, .int .i64 p, .int .i64 b, .int .i64 d]).step hb1
      have B1 := below_step ((Below.refl _ _).alloc (Nat.le_refl _) _) hb1
      clear hb1
      obtain ⟨c0, c1, c2, c3, c4, c5, c6⟩ := cells7 AW
      go_upto_region 6 with fail
      clear c0 c1 c2 c3 c4 c5 c6
      have HS := Lib.hid (show ∀ w' : World, Below w1.heap.size w1 w' → (w'.cell? ⟨w.heap.size, 0, none⟩ = some (.int .i64 n) ∧ w'.cell? ⟨w.heap.size, 1, none⟩ = some (.int .i64 i) ∧ w'.cell? ⟨w.heap.size, 2, none⟩ = some (.int .i64 h) ∧ w'.cell? ⟨w.heap.size, 3, none⟩ = some (.bool false) ∧ w'.cell? ⟨w.heap.size, 4, none⟩ = some (.int .i64 p) ∧ w'.cell? ⟨w.heap.size, 5, none⟩ = some (.int .i64 b) ∧ w'.cell? ⟨w.heap.size, 6, none⟩ = some (.int .i64 d)) from fun w' hb => cells7 (AW.step hb))
      obtain ⟨k0, k1, k2, k3, k4, k5, k6⟩ := HS.out w1 (Below.refl _ _)
      clear AW
      go_region_held3 (fun w' => w'.cell? ⟨w.heap.size, 0, none⟩ = some (.int .i64 n) ∧ w'.cell? ⟨w.heap.size, 1, none⟩ = some (.int .i64 i) ∧ w'.cell? ⟨w.heap.size, 2, none⟩ = some (.int .i64 h) ∧ w'.cell? ⟨w.heap.size, 3, none⟩ = some (.bool false) ∧ w'.cell? ⟨w.heap.size, 4, none⟩ = some (.int .i64 p) ∧ w'.cell? ⟨w.heap.size, 5, none⟩ = some (.int .i64 b) ∧ w'.cell? ⟨w.heap.size, 6, none⟩ = some (.int .i64 d))
        (first | exact ⟨k0, k1, k2, k3, k4, k5, k6⟩ | exact HS.out _ (by (repeat (first | with_reducible assumption | with_reducible exact Below.refl _ _ | with_reducible refine Below.drew ?_ | with_reducible refine below_drewN ?_ _))))
        (first
          | (go_at_call 31; refine (refFree_any n i h false p b d _).mono ?_; rintro e v2 ⟨rfl, hv2⟩; have Q2 : Below w1.heap.size w1 v2 := below_step (by (repeat (first | with_reducible assumption | with_reducible exact Below.refl _ _ | with_reducible refine Below.drew ?_ | with_reducible refine below_drewN ?_ _))) hv2; clear hv2; rw [FV.out]))
      go_wp2_with fail
      go_ret
      exact ⟨rfl, below_step B1 (by (repeat (first | with_reducible assumption | with_reducible exact Below.refl _ _ | with_reducible refine Below.drew ?_ | with_reducible refine below_drewN ?_ _)))⟩
    · obtain ⟨⟨i0, i1⟩, hh, ⟨p0, p1⟩, ⟨b0, b1⟩, _, hs⟩ := good_set hc
      have w9 : (i == p + b) = true := beq_iff_eq.2 hs.symm
      clear hc hh hs
      go_enter Try.func32, Try.ntmps32
      go_wp2_with fail
      refine (refCheck_any n i h true p b d _).mono ?_; rintro e w1 ⟨rfl, hb1⟩
      rw [HC.out]
      obtain ⟨c0, c1, c2, c3, c4, c5, c6⟩ := cells7 ((At.new w 24 #[.int .i64 n, .int .i64 i, .int .i64 h, .bool true, .int .i64 p, .int .i64 b, .int .i64 d]).step hb1)
      have B1 := below_step ((Below.refl _ _).alloc (Nat.le_refl _) _) hb1
      clear hb1
      go_wp2_with fail
      go_ret
      exact ⟨rfl, B1⟩

set_option maxRecDepth 100000 in
set_option maxHeartbeats 6400000 in
theorem refPut_any (n i h : Int) (s : Bool) (p b d v : Int) (w : World) :
    Calls Try.prog 26 #[.agg #[.int .i64 n, .int .i64 i, .int .i64 h, .bool s, .int .i64 p, .int .i64 b, .int .i64 d], .int .i64 v] w fun e w' => e = .returned (resV (putR ⟨n, i, h, s, p, b, d⟩ v)) ∧ Below w.heap.size w w' := by
  cases hc : Acc.ok ⟨n, i, h, s, p, b, d⟩
  · have H := Lib.hid (show putR ⟨n, i, h, s, p, b, d⟩ v = (zeroAcc, 1) by unfold putR; rw [if_neg (by rw [hc]; simp)])
    have HC := Lib.hid hc
    clear hc
    go_enter Try.func26, Try.ntmps26
    go_wp2_with fail
    obtain ⟨W1, hW1⟩ : ∃ W1, W1 = (w.alloc (.cells #[.int .i64 n, .int .i64 i, .int .i64 h, .bool s, .int .i64 p, .int .i64 b, .int .i64 d] 24)).alloc (.cells #[.int .i64 0, .int .i64 0, .int .i64 0, .bool false, .int .i64 0, .int .i64 0, .int .i64 0] 24) := ⟨_, rfl⟩
    rw [← hW1]
    obtain ⟨hA, hR, hB⟩ := change_world w W1 n i h s p b d hW1
    clear hW1
    refine (refCheck_any n i h s p b d _).mono ?_; rintro e w1 ⟨rfl, hb1⟩
    rw [HC.out]
    have A1 := hA.step hb1
    have R1 := hR.step hb1
    have B1 := below_step hB hb1
    clear hA hR hB hb1
    have a0 := A1.cell 0
    have af0 := A1.free 0
    have rc0 := R1.cell 0
    have rf0 := R1.free 0
    have a1 := A1.cell 1
    have af1 := A1.free 1
    have rc1 := R1.cell 1
    have rf1 := R1.free 1
    have a2 := A1.cell 2
    have af2 := A1.free 2
    have rc2 := R1.cell 2
    have rf2 := R1.free 2
    have a3 := A1.cell 3
    have af3 := A1.free 3
    have rc3 := R1.cell 3
    have rf3 := R1.free 3
    have a4 := A1.cell 4
    have af4 := A1.free 4
    have rc4 := R1.cell 4
    have rf4 := R1.free 4
    have a5 := A1.cell 5
    have af5 := A1.free 5
    have rc5 := R1.cell 5
    have rf5 := R1.free 5
    have a6 := A1.cell 6
    have af6 := A1.free 6
    have rc6 := R1.cell 6
    have rf6 := R1.free 6
    simp at a0 a1 a2 a3 a4 a5 a6 rc0 rc1 rc2 rc3 rc4 rc5 rc6
    go_wp2_with fail
    have F := put7 R1 (t := 24) (v0 := .int .i64 0) (v1 := .int .i64 0) (v2 := .int .i64 0) (v3 := .bool false) (v4 := .int .i64 0) (v5 := .int .i64 0) (v6 := .int .i64 0)
    have q0 := F.cell 0
    have q1 := F.cell 1
    have q2 := F.cell 2
    have q3 := F.cell 3
    have q4 := F.cell 4
    have q5 := F.cell 5
    have q6 := F.cell 6
    simp at q0 q1 q2 q3 q4 q5 q6
    exact bodyPost_ret (v := .tuple #[.agg #[.int .i64 0, .int .i64 0, .int .i64 0, .bool false, .int .i64 0, .int .i64 0, .int .i64 0], .int .i64 1]) (by simp [results, Try.results26, go_sem, q0, q1, q2, q3, q4, q5, q6]) rfl ⟨by rw [H.out]; rfl, below7 B1 (by simp)⟩
  have HC := Lib.hid hc
  by_cases hv : v < 1
  · have H := Lib.hid (show putR ⟨n, i, h, s, p, b, d⟩ v = (⟨n, i, h, s, p, b, d⟩, 1) by unfold putR; rw [if_pos hc, if_pos hv])
    clear hc
    go_enter Try.func26, Try.ntmps26
    go_wp2_with fail
    obtain ⟨W1, hW1⟩ : ∃ W1, W1 = (w.alloc (.cells #[.int .i64 n, .int .i64 i, .int .i64 h, .bool s, .int .i64 p, .int .i64 b, .int .i64 d] 24)).alloc (.cells #[.int .i64 0, .int .i64 0, .int .i64 0, .bool false, .int .i64 0, .int .i64 0, .int .i64 0] 24) := ⟨_, rfl⟩
    rw [← hW1]
    obtain ⟨hA, hR, hB⟩ := change_world w W1 n i h s p b d hW1
    clear hW1
    refine (refCheck_any n i h s p b d _).mono ?_; rintro e w1 ⟨rfl, hb1⟩
    rw [HC.out]
    have A1 := hA.step hb1
    have R1 := hR.step hb1
    have B1 := below_step hB hb1
    clear hA hR hB hb1
    have a0 := A1.cell 0
    have af0 := A1.free 0
    have rc0 := R1.cell 0
    have rf0 := R1.free 0
    have a1 := A1.cell 1
    have af1 := A1.free 1
    have rc1 := R1.cell 1
    have rf1 := R1.free 1
    have a2 := A1.cell 2
    have af2 := A1.free 2
    have rc2 := R1.cell 2
    have rf2 := R1.free 2
    have a3 := A1.cell 3
    have af3 := A1.free 3
    have rc3 := R1.cell 3
    have rf3 := R1.free 3
    have a4 := A1.cell 4
    have af4 := A1.free 4
    have rc4 := R1.cell 4
    have rf4 := R1.free 4
    have a5 := A1.cell 5
    have af5 := A1.free 5
    have rc5 := R1.cell 5
    have rf5 := R1.free 5
    have a6 := A1.cell 6
    have af6 := A1.free 6
    have rc6 := R1.cell 6
    have rf6 := R1.free 6
    simp at a0 a1 a2 a3 a4 a5 a6 rc0 rc1 rc2 rc3 rc4 rc5 rc6
    go_wp2_with fail
    have F := put7 R1 (t := 24) (v0 := .int .i64 n) (v1 := .int .i64 i) (v2 := .int .i64 h) (v3 := .bool s) (v4 := .int .i64 p) (v5 := .int .i64 b) (v6 := .int .i64 d)
    have q0 := F.cell 0
    have q1 := F.cell 1
    have q2 := F.cell 2
    have q3 := F.cell 3
    have q4 := F.cell 4
    have q5 := F.cell 5
    have q6 := F.cell 6
    simp at q0 q1 q2 q3 q4 q5 q6
    exact bodyPost_ret (v := .tuple #[.agg #[.int .i64 n, .int .i64 i, .int .i64 h, .bool s, .int .i64 p, .int .i64 b, .int .i64 d], .int .i64 1]) (by simp [results, Try.results26, go_sem, q0, q1, q2, q3, q4, q5, q6]) rfl ⟨by rw [H.out]; rfl, below7 B1 (by simp)⟩
  cases s
  · obtain ⟨⟨i0, i1⟩, ⟨h0, h1⟩, hp, hb, hd⟩ := good_open hc
    by_cases ho : 1125899906842624 - i < v
    · have H := Lib.hid (show putR ⟨n, i, h, false, p, b, d⟩ v = (⟨n, i, h, false, p, b, d⟩, 16) by unfold putR; rw [if_pos hc, if_neg hv, if_neg (by simp), if_pos ho])
      clear hc hp hb hd
      go_enter Try.func26, Try.ntmps26
      go_wp2_with fail
      obtain ⟨W1, hW1⟩ : ∃ W1, W1 = (w.alloc (.cells #[.int .i64 n, .int .i64 i, .int .i64 h, .bool false, .int .i64 p, .int .i64 b, .int .i64 d] 24)).alloc (.cells #[.int .i64 0, .int .i64 0, .int .i64 0, .bool false, .int .i64 0, .int .i64 0, .int .i64 0] 24) := ⟨_, rfl⟩
      rw [← hW1]
      obtain ⟨hA, hR, hB⟩ := change_world w W1 n i h false p b d hW1
      clear hW1
      refine (refCheck_any n i h false p b d _).mono ?_; rintro e w1 ⟨rfl, hb1⟩
      rw [HC.out]
      have A1 := hA.step hb1
      have R1 := hR.step hb1
      have B1 := below_step hB hb1
      clear hA hR hB hb1
      have a0 := A1.cell 0
      have af0 := A1.free 0
      have rc0 := R1.cell 0
      have rf0 := R1.free 0
      have a1 := A1.cell 1
      have af1 := A1.free 1
      have rc1 := R1.cell 1
      have rf1 := R1.free 1
      have a2 := A1.cell 2
      have af2 := A1.free 2
      have rc2 := R1.cell 2
      have rf2 := R1.free 2
      have a3 := A1.cell 3
      have af3 := A1.free 3
      have rc3 := R1.cell 3
      have rf3 := R1.free 3
      have a4 := A1.cell 4
      have af4 := A1.free 4
      have rc4 := R1.cell 4
      have rf4 := R1.free 4
      have a5 := A1.cell 5
      have af5 := A1.free 5
      have rc5 := R1.cell 5
      have rf5 := R1.free 5
      have a6 := A1.cell 6
      have af6 := A1.free 6
      have rc6 := R1.cell 6
      have rf6 := R1.free 6
      simp at a0 a1 a2 a3 a4 a5 a6 rc0 rc1 rc2 rc3 rc4 rc5 rc6
      go_wp2_with fail
      have F := put7 R1 (t := 24) (v0 := .int .i64 n) (v1 := .int .i64 i) (v2 := .int .i64 h) (v3 := .bool false) (v4 := .int .i64 p) (v5 := .int .i64 b) (v6 := .int .i64 d)
      have q0 := F.cell 0
      have q1 := F.cell 1
      have q2 := F.cell 2
      have q3 := F.cell 3
      have q4 := F.cell 4
      have q5 := F.cell 5
      have q6 := F.cell 6
      simp at q0 q1 q2 q3 q4 q5 q6
      exact bodyPost_ret (v := .tuple #[.agg #[.int .i64 n, .int .i64 i, .int .i64 h, .bool false, .int .i64 p, .int .i64 b, .int .i64 d], .int .i64 16]) (by simp [results, Try.results26, go_sem, q0, q1, q2, q3, q4, q5, q6]) rfl ⟨by rw [H.out]; rfl, below7 B1 (by simp)⟩
    · have H := Lib.hid (show putR ⟨n, i, h, false, p, b, d⟩ v = (⟨n, i + v, h, false, p, b, d⟩, 0) by unfold putR; rw [if_pos hc, if_neg hv, if_neg (by simp), if_neg ho])
      clear hc hp hb hd
      go_enter Try.func26, Try.ntmps26
      go_wp2_with fail
      obtain ⟨W1, hW1⟩ : ∃ W1, W1 = (w.alloc (.cells #[.int .i64 n, .int .i64 i, .int .i64 h, .bool false, .int .i64 p, .int .i64 b, .int .i64 d] 24)).alloc (.cells #[.int .i64 0, .int .i64 0, .int .i64 0, .bool false, .int .i64 0, .int .i64 0, .int .i64 0] 24) := ⟨_, rfl⟩
      rw [← hW1]
      obtain ⟨hA, hR, hB⟩ := change_world w W1 n i h false p b d hW1
      clear hW1
      refine (refCheck_any n i h false p b d _).mono ?_; rintro e w1 ⟨rfl, hb1⟩
      rw [HC.out]
      have A1 := hA.step hb1
      have R1 := hR.step hb1
      have B1 := below_step hB hb1
      clear hA hR hB hb1
      have a0 := A1.cell 0
      have af0 := A1.free 0
      have rc0 := R1.cell 0
      have rf0 := R1.free 0
      have a1 := A1.cell 1
      have af1 := A1.free 1
      have rc1 := R1.cell 1
      have rf1 := R1.free 1
      have a2 := A1.cell 2
      have af2 := A1.free 2
      have rc2 := R1.cell 2
      have rf2 := R1.free 2
      have a3 := A1.cell 3
      have af3 := A1.free 3
      have rc3 := R1.cell 3
      have rf3 := R1.free 3
      have a4 := A1.cell 4
      have af4 := A1.free 4
      have rc4 := R1.cell 4
      have rf4 := R1.free 4
      have a5 := A1.cell 5
      have af5 := A1.free 5
      have rc5 := R1.cell 5
      have rf5 := R1.free 5
      have a6 := A1.cell 6
      have af6 := A1.free 6
      have rc6 := R1.cell 6
      have rf6 := R1.free 6
      simp at a0 a1 a2 a3 a4 a5 a6 rc0 rc1 rc2 rc3 rc4 rc5 rc6
      have AF := (A1.put 1 (.int .i64 (i + v)))
      have g0 := AF.cell 0
      have g1 := AF.cell 1
      have g2 := AF.cell 2
      have g3 := AF.cell 3
      have g4 := AF.cell 4
      have g5 := AF.cell 5
      have g6 := AF.cell 6
      simp at g0 g1 g2 g3 g4 g5 g6
      go_wp2_with fail
      have F := put7 (R1.far (p := ⟨w.heap.size, 1, none⟩) (by simp) (.int .i64 (i + v))) (t := 24) (v0 := .int .i64 n) (v1 := .int .i64 (i + v)) (v2 := .int .i64 h) (v3 := .bool false) (v4 := .int .i64 p) (v5 := .int .i64 b) (v6 := .int .i64 d)
      have q0 := F.cell 0
      have q1 := F.cell 1
      have q2 := F.cell 2
      have q3 := F.cell 3
      have q4 := F.cell 4
      have q5 := F.cell 5
      have q6 := F.cell 6
      simp at q0 q1 q2 q3 q4 q5 q6
      exact bodyPost_ret (v := .tuple #[.agg #[.int .i64 n, .int .i64 (i + v), .int .i64 h, .bool false, .int .i64 p, .int .i64 b, .int .i64 d], .int .i64 0]) (by simp [results, Try.results26, go_sem, q0, q1, q2, q3, q4, q5, q6]) rfl ⟨by rw [H.out]; rfl, below7 (B1.setCell (p := ⟨w.heap.size, 1, none⟩) (Nat.le_refl _) (.int .i64 (i + v))) (by simp)⟩
  · have H := Lib.hid (show putR ⟨n, i, h, true, p, b, d⟩ v = (⟨n, i, h, true, p, b, d⟩, 13) by unfold putR; rw [if_pos hc, if_neg hv, if_pos rfl])
    clear hc
    go_enter Try.func26, Try.ntmps26
    go_wp2_with fail
    obtain ⟨W1, hW1⟩ : ∃ W1, W1 = (w.alloc (.cells #[.int .i64 n, .int .i64 i, .int .i64 h, .bool true, .int .i64 p, .int .i64 b, .int .i64 d] 24)).alloc (.cells #[.int .i64 0, .int .i64 0, .int .i64 0, .bool false, .int .i64 0, .int .i64 0, .int .i64 0] 24) := ⟨_, rfl⟩
    rw [← hW1]
    obtain ⟨hA, hR, hB⟩ := change_world w W1 n i h true p b d hW1
    clear hW1
    refine (refCheck_any n i h true p b d _).mono ?_; rintro e w1 ⟨rfl, hb1⟩
    rw [HC.out]
    have A1 := hA.step hb1
    have R1 := hR.step hb1
    have B1 := below_step hB hb1
    clear hA hR hB hb1
    have a0 := A1.cell 0
    have af0 := A1.free 0
    have rc0 := R1.cell 0
    have rf0 := R1.free 0
    have a1 := A1.cell 1
    have af1 := A1.free 1
    have rc1 := R1.cell 1
    have rf1 := R1.free 1
    have a2 := A1.cell 2
    have af2 := A1.free 2
    have rc2 := R1.cell 2
    have rf2 := R1.free 2
    have a3 := A1.cell 3
    have af3 := A1.free 3
    have rc3 := R1.cell 3
    have rf3 := R1.free 3
    have a4 := A1.cell 4
    have af4 := A1.free 4
    have rc4 := R1.cell 4
    have rf4 := R1.free 4
    have a5 := A1.cell 5
    have af5 := A1.free 5
    have rc5 := R1.cell 5
    have rf5 := R1.free 5
    have a6 := A1.cell 6
    have af6 := A1.free 6
    have rc6 := R1.cell 6
    have rf6 := R1.free 6
    simp at a0 a1 a2 a3 a4 a5 a6 rc0 rc1 rc2 rc3 rc4 rc5 rc6
    go_wp2_with fail
    have F := put7 R1 (t := 24) (v0 := .int .i64 n) (v1 := .int .i64 i) (v2 := .int .i64 h) (v3 := .bool true) (v4 := .int .i64 p) (v5 := .int .i64 b) (v6 := .int .i64 d)
    have q0 := F.cell 0
    have q1 := F.cell 1
    have q2 := F.cell 2
    have q3 := F.cell 3
    have q4 := F.cell 4
    have q5 := F.cell 5
    have q6 := F.cell 6
    simp at q0 q1 q2 q3 q4 q5 q6
    exact bodyPost_ret (v := .tuple #[.agg #[.int .i64 n, .int .i64 i, .int .i64 h, .bool true, .int .i64 p, .int .i64 b, .int .i64 d], .int .i64 13]) (by simp [results, Try.results26, go_sem, q0, q1, q2, q3, q4, q5, q6]) rfl ⟨by rw [H.out]; rfl, below7 B1 (by simp)⟩

set_option maxRecDepth 100000 in
set_option maxHeartbeats 6400000 in
theorem refHold_any (n i h : Int) (s : Bool) (p b d v : Int) (w : World) :
    Calls Try.prog 27 #[.agg #[.int .i64 n, .int .i64 i, .int .i64 h, .bool s, .int .i64 p, .int .i64 b, .int .i64 d], .int .i64 v] w fun e w' => e = .returned (resV (holdR ⟨n, i, h, s, p, b, d⟩ v)) ∧ Below w.heap.size w w' := by
  cases hc : Acc.ok ⟨n, i, h, s, p, b, d⟩
  · have H := Lib.hid (show holdR ⟨n, i, h, s, p, b, d⟩ v = (zeroAcc, 1) by unfold holdR; rw [if_neg (by rw [hc]; simp)])
    have HC := Lib.hid hc
    clear hc
    go_enter Try.func27, Try.ntmps27
    go_wp2_with fail
    obtain ⟨W1, hW1⟩ : ∃ W1, W1 = (w.alloc (.cells #[.int .i64 n, .int .i64 i, .int .i64 h, .bool s, .int .i64 p, .int .i64 b, .int .i64 d] 24)).alloc (.cells #[.int .i64 0, .int .i64 0, .int .i64 0, .bool false, .int .i64 0, .int .i64 0, .int .i64 0] 24) := ⟨_, rfl⟩
    rw [← hW1]
    obtain ⟨hA, hR, hB⟩ := change_world w W1 n i h s p b d hW1
    clear hW1
    refine (refCheck_any n i h s p b d _).mono ?_; rintro e w1 ⟨rfl, hb1⟩
    rw [HC.out]
    have A1 := hA.step hb1
    have R1 := hR.step hb1
    have B1 := below_step hB hb1
    clear hA hR hB hb1
    have a0 := A1.cell 0
    have af0 := A1.free 0
    have rc0 := R1.cell 0
    have rf0 := R1.free 0
    have a1 := A1.cell 1
    have af1 := A1.free 1
    have rc1 := R1.cell 1
    have rf1 := R1.free 1
    have a2 := A1.cell 2
    have af2 := A1.free 2
    have rc2 := R1.cell 2
    have rf2 := R1.free 2
    have a3 := A1.cell 3
    have af3 := A1.free 3
    have rc3 := R1.cell 3
    have rf3 := R1.free 3
    have a4 := A1.cell 4
    have af4 := A1.free 4
    have rc4 := R1.cell 4
    have rf4 := R1.free 4
    have a5 := A1.cell 5
    have af5 := A1.free 5
    have rc5 := R1.cell 5
    have rf5 := R1.free 5
    have a6 := A1.cell 6
    have af6 := A1.free 6
    have rc6 := R1.cell 6
    have rf6 := R1.free 6
    simp at a0 a1 a2 a3 a4 a5 a6 rc0 rc1 rc2 rc3 rc4 rc5 rc6
    go_wp2_with fail
    have F := put7 R1 (t := 24) (v0 := .int .i64 0) (v1 := .int .i64 0) (v2 := .int .i64 0) (v3 := .bool false) (v4 := .int .i64 0) (v5 := .int .i64 0) (v6 := .int .i64 0)
    have q0 := F.cell 0
    have q1 := F.cell 1
    have q2 := F.cell 2
    have q3 := F.cell 3
    have q4 := F.cell 4
    have q5 := F.cell 5
    have q6 := F.cell 6
    simp at q0 q1 q2 q3 q4 q5 q6
    exact bodyPost_ret (v := .tuple #[.agg #[.int .i64 0, .int .i64 0, .int .i64 0, .bool false, .int .i64 0, .int .i64 0, .int .i64 0], .int .i64 1]) (by simp [results, Try.results27, go_sem, q0, q1, q2, q3, q4, q5, q6]) rfl ⟨by rw [H.out]; rfl, below7 B1 (by simp)⟩
  have HC := Lib.hid hc
  by_cases hv : v < 0
  · have H := Lib.hid (show holdR ⟨n, i, h, s, p, b, d⟩ v = (⟨n, i, h, s, p, b, d⟩, 1) by unfold holdR; rw [if_pos hc, if_pos hv])
    clear hc
    go_enter Try.func27, Try.ntmps27
    go_wp2_with fail
    obtain ⟨W1, hW1⟩ : ∃ W1, W1 = (w.alloc (.cells #[.int .i64 n, .int .i64 i, .int .i64 h, .bool s, .int .i64 p, .int .i64 b, .int .i64 d] 24)).alloc (.cells #[.int .i64 0, .int .i64 0, .int .i64 0, .bool false, .int .i64 0, .int .i64 0, .int .i64 0] 24) := ⟨_, rfl⟩
    rw [← hW1]
    obtain ⟨hA, hR, hB⟩ := change_world w W1 n i h s p b d hW1
    clear hW1
    refine (refCheck_any n i h s p b d _).mono ?_; rintro e w1 ⟨rfl, hb1⟩
    rw [HC.out]
    have A1 := hA.step hb1
    have R1 := hR.step hb1
    have B1 := below_step hB hb1
    clear hA hR hB hb1
    have a0 := A1.cell 0
    have af0 := A1.free 0
    have rc0 := R1.cell 0
    have rf0 := R1.free 0
    have a1 := A1.cell 1
    have af1 := A1.free 1
    have rc1 := R1.cell 1
    have rf1 := R1.free 1
    have a2 := A1.cell 2
    have af2 := A1.free 2
    have rc2 := R1.cell 2
    have rf2 := R1.free 2
    have a3 := A1.cell 3
    have af3 := A1.free 3
    have rc3 := R1.cell 3
    have rf3 := R1.free 3
    have a4 := A1.cell 4
    have af4 := A1.free 4
    have rc4 := R1.cell 4
    have rf4 := R1.free 4
    have a5 := A1.cell 5
    have af5 := A1.free 5
    have rc5 := R1.cell 5
    have rf5 := R1.free 5
    have a6 := A1.cell 6
    have af6 := A1.free 6
    have rc6 := R1.cell 6
    have rf6 := R1.free 6
    simp at a0 a1 a2 a3 a4 a5 a6 rc0 rc1 rc2 rc3 rc4 rc5 rc6
    go_wp2_with fail
    have F := put7 R1 (t := 24) (v0 := .int .i64 n) (v1 := .int .i64 i) (v2 := .int .i64 h) (v3 := .bool s) (v4 := .int .i64 p) (v5 := .int .i64 b) (v6 := .int .i64 d)
    have q0 := F.cell 0
    have q1 := F.cell 1
    have q2 := F.cell 2
    have q3 := F.cell 3
    have q4 := F.cell 4
    have q5 := F.cell 5
    have q6 := F.cell 6
    simp at q0 q1 q2 q3 q4 q5 q6
    exact bodyPost_ret (v := .tuple #[.agg #[.int .i64 n, .int .i64 i, .int .i64 h, .bool s, .int .i64 p, .int .i64 b, .int .i64 d], .int .i64 1]) (by simp [results, Try.results27, go_sem, q0, q1, q2, q3, q4, q5, q6]) rfl ⟨by rw [H.out]; rfl, below7 B1 (by simp)⟩
  cases s
  · obtain ⟨⟨i0, i1⟩, ⟨h0, h1⟩, hp, hb, hd⟩ := good_open hc
    by_cases ho : i - h < v
    · have H := Lib.hid (show holdR ⟨n, i, h, false, p, b, d⟩ v = (⟨n, i, h, false, p, b, d⟩, 19) by unfold holdR; rw [if_pos hc, if_neg hv, if_neg (by simp), if_pos ho])
      clear hc hp hb hd
      go_enter Try.func27, Try.ntmps27
      go_wp2_with fail
      obtain ⟨W1, hW1⟩ : ∃ W1, W1 = (w.alloc (.cells #[.int .i64 n, .int .i64 i, .int .i64 h, .bool false, .int .i64 p, .int .i64 b, .int .i64 d] 24)).alloc (.cells #[.int .i64 0, .int .i64 0, .int .i64 0, .bool false, .int .i64 0, .int .i64 0, .int .i64 0] 24) := ⟨_, rfl⟩
      rw [← hW1]
      obtain ⟨hA, hR, hB⟩ := change_world w W1 n i h false p b d hW1
      clear hW1
      refine (refCheck_any n i h false p b d _).mono ?_; rintro e w1 ⟨rfl, hb1⟩
      rw [HC.out]
      have A1 := hA.step hb1
      have R1 := hR.step hb1
      have B1 := below_step hB hb1
      clear hA hR hB hb1
      have a0 := A1.cell 0
      have af0 := A1.free 0
      have rc0 := R1.cell 0
      have rf0 := R1.free 0
      have a1 := A1.cell 1
      have af1 := A1.free 1
      have rc1 := R1.cell 1
      have rf1 := R1.free 1
      have a2 := A1.cell 2
      have af2 := A1.free 2
      have rc2 := R1.cell 2
      have rf2 := R1.free 2
      have a3 := A1.cell 3
      have af3 := A1.free 3
      have rc3 := R1.cell 3
      have rf3 := R1.free 3
      have a4 := A1.cell 4
      have af4 := A1.free 4
      have rc4 := R1.cell 4
      have rf4 := R1.free 4
      have a5 := A1.cell 5
      have af5 := A1.free 5
      have rc5 := R1.cell 5
      have rf5 := R1.free 5
      have a6 := A1.cell 6
      have af6 := A1.free 6
      have rc6 := R1.cell 6
      have rf6 := R1.free 6
      simp at a0 a1 a2 a3 a4 a5 a6 rc0 rc1 rc2 rc3 rc4 rc5 rc6
      go_wp2_with fail
      have F := put7 R1 (t := 24) (v0 := .int .i64 n) (v1 := .int .i64 i) (v2 := .int .i64 h) (v3 := .bool false) (v4 := .int .i64 p) (v5 := .int .i64 b) (v6 := .int .i64 d)
      have q0 := F.cell 0
      have q1 := F.cell 1
      have q2 := F.cell 2
      have q3 := F.cell 3
      have q4 := F.cell 4
      have q5 := F.cell 5
      have q6 := F.cell 6
      simp at q0 q1 q2 q3 q4 q5 q6
      exact bodyPost_ret (v := .tuple #[.agg #[.int .i64 n, .int .i64 i, .int .i64 h, .bool false, .int .i64 p, .int .i64 b, .int .i64 d], .int .i64 19]) (by simp [results, Try.results27, go_sem, q0, q1, q2, q3, q4, q5, q6]) rfl ⟨by rw [H.out]; rfl, below7 B1 (by simp)⟩
    · have H := Lib.hid (show holdR ⟨n, i, h, false, p, b, d⟩ v = (⟨n, i, h + v, false, p, b, d⟩, 0) by unfold holdR; rw [if_pos hc, if_neg hv, if_neg (by simp), if_neg ho])
      clear hc hp hb hd
      go_enter Try.func27, Try.ntmps27
      go_wp2_with fail
      obtain ⟨W1, hW1⟩ : ∃ W1, W1 = (w.alloc (.cells #[.int .i64 n, .int .i64 i, .int .i64 h, .bool false, .int .i64 p, .int .i64 b, .int .i64 d] 24)).alloc (.cells #[.int .i64 0, .int .i64 0, .int .i64 0, .bool false, .int .i64 0, .int .i64 0, .int .i64 0] 24) := ⟨_, rfl⟩
      rw [← hW1]
      obtain ⟨hA, hR, hB⟩ := change_world w W1 n i h false p b d hW1
      clear hW1
      refine (refCheck_any n i h false p b d _).mono ?_; rintro e w1 ⟨rfl, hb1⟩
      rw [HC.out]
      have A1 := hA.step hb1
      have R1 := hR.step hb1
      have B1 := below_step hB hb1
      clear hA hR hB hb1
      have a0 := A1.cell 0
      have af0 := A1.free 0
      have rc0 := R1.cell 0
      have rf0 := R1.free 0
      have a1 := A1.cell 1
      have af1 := A1.free 1
      have rc1 := R1.cell 1
      have rf1 := R1.free 1
      have a2 := A1.cell 2
      have af2 := A1.free 2
      have rc2 := R1.cell 2
      have rf2 := R1.free 2
      have a3 := A1.cell 3
      have af3 := A1.free 3
      have rc3 := R1.cell 3
      have rf3 := R1.free 3
      have a4 := A1.cell 4
      have af4 := A1.free 4
      have rc4 := R1.cell 4
      have rf4 := R1.free 4
      have a5 := A1.cell 5
      have af5 := A1.free 5
      have rc5 := R1.cell 5
      have rf5 := R1.free 5
      have a6 := A1.cell 6
      have af6 := A1.free 6
      have rc6 := R1.cell 6
      have rf6 := R1.free 6
      simp at a0 a1 a2 a3 a4 a5 a6 rc0 rc1 rc2 rc3 rc4 rc5 rc6
      have AF := (A1.put 2 (.int .i64 (h + v)))
      have g0 := AF.cell 0
      have g1 := AF.cell 1
      have g2 := AF.cell 2
      have g3 := AF.cell 3
      have g4 := AF.cell 4
      have g5 := AF.cell 5
      have g6 := AF.cell 6
      simp at g0 g1 g2 g3 g4 g5 g6
      go_wp2_with fail
      have F := put7 (R1.far (p := ⟨w.heap.size, 2, none⟩) (by simp) (.int .i64 (h + v))) (t := 24) (v0 := .int .i64 n) (v1 := .int .i64 i) (v2 := .int .i64 (h + v)) (v3 := .bool false) (v4 := .int .i64 p) (v5 := .int .i64 b) (v6 := .int .i64 d)
      have q0 := F.cell 0
      have q1 := F.cell 1
      have q2 := F.cell 2
      have q3 := F.cell 3
      have q4 := F.cell 4
      have q5 := F.cell 5
      have q6 := F.cell 6
      simp at q0 q1 q2 q3 q4 q5 q6
      exact bodyPost_ret (v := .tuple #[.agg #[.int .i64 n, .int .i64 i, .int .i64 (h + v), .bool false, .int .i64 p, .int .i64 b, .int .i64 d], .int .i64 0]) (by simp [results, Try.results27, go_sem, q0, q1, q2, q3, q4, q5, q6]) rfl ⟨by rw [H.out]; rfl, below7 (B1.setCell (p := ⟨w.heap.size, 2, none⟩) (Nat.le_refl _) (.int .i64 (h + v))) (by simp)⟩
  · have H := Lib.hid (show holdR ⟨n, i, h, true, p, b, d⟩ v = (⟨n, i, h, true, p, b, d⟩, 13) by unfold holdR; rw [if_pos hc, if_neg hv, if_pos rfl])
    clear hc
    go_enter Try.func27, Try.ntmps27
    go_wp2_with fail
    obtain ⟨W1, hW1⟩ : ∃ W1, W1 = (w.alloc (.cells #[.int .i64 n, .int .i64 i, .int .i64 h, .bool true, .int .i64 p, .int .i64 b, .int .i64 d] 24)).alloc (.cells #[.int .i64 0, .int .i64 0, .int .i64 0, .bool false, .int .i64 0, .int .i64 0, .int .i64 0] 24) := ⟨_, rfl⟩
    rw [← hW1]
    obtain ⟨hA, hR, hB⟩ := change_world w W1 n i h true p b d hW1
    clear hW1
    refine (refCheck_any n i h true p b d _).mono ?_; rintro e w1 ⟨rfl, hb1⟩
    rw [HC.out]
    have A1 := hA.step hb1
    have R1 := hR.step hb1
    have B1 := below_step hB hb1
    clear hA hR hB hb1
    have a0 := A1.cell 0
    have af0 := A1.free 0
    have rc0 := R1.cell 0
    have rf0 := R1.free 0
    have a1 := A1.cell 1
    have af1 := A1.free 1
    have rc1 := R1.cell 1
    have rf1 := R1.free 1
    have a2 := A1.cell 2
    have af2 := A1.free 2
    have rc2 := R1.cell 2
    have rf2 := R1.free 2
    have a3 := A1.cell 3
    have af3 := A1.free 3
    have rc3 := R1.cell 3
    have rf3 := R1.free 3
    have a4 := A1.cell 4
    have af4 := A1.free 4
    have rc4 := R1.cell 4
    have rf4 := R1.free 4
    have a5 := A1.cell 5
    have af5 := A1.free 5
    have rc5 := R1.cell 5
    have rf5 := R1.free 5
    have a6 := A1.cell 6
    have af6 := A1.free 6
    have rc6 := R1.cell 6
    have rf6 := R1.free 6
    simp at a0 a1 a2 a3 a4 a5 a6 rc0 rc1 rc2 rc3 rc4 rc5 rc6
    go_wp2_with fail
    have F := put7 R1 (t := 24) (v0 := .int .i64 n) (v1 := .int .i64 i) (v2 := .int .i64 h) (v3 := .bool true) (v4 := .int .i64 p) (v5 := .int .i64 b) (v6 := .int .i64 d)
    have q0 := F.cell 0
    have q1 := F.cell 1
    have q2 := F.cell 2
    have q3 := F.cell 3
    have q4 := F.cell 4
    have q5 := F.cell 5
    have q6 := F.cell 6
    simp at q0 q1 q2 q3 q4 q5 q6
    exact bodyPost_ret (v := .tuple #[.agg #[.int .i64 n, .int .i64 i, .int .i64 h, .bool true, .int .i64 p, .int .i64 b, .int .i64 d], .int .i64 13]) (by simp [results, Try.results27, go_sem, q0, q1, q2, q3, q4, q5, q6]) rfl ⟨by rw [H.out]; rfl, below7 B1 (by simp)⟩

set_option maxRecDepth 100000 in
set_option maxHeartbeats 6400000 in
theorem refLet_any (n i h : Int) (s : Bool) (p b d v : Int) (w : World) :
    Calls Try.prog 28 #[.agg #[.int .i64 n, .int .i64 i, .int .i64 h, .bool s, .int .i64 p, .int .i64 b, .int .i64 d], .int .i64 v] w fun e w' => e = .returned (resV (letR ⟨n, i, h, s, p, b, d⟩ v)) ∧ Below w.heap.size w w' := by
  cases hc : Acc.ok ⟨n, i, h, s, p, b, d⟩
  · have H := Lib.hid (show letR ⟨n, i, h, s, p, b, d⟩ v = (zeroAcc, 1) by unfold letR; rw [if_neg (by rw [hc]; simp)])
    have HC := Lib.hid hc
    clear hc
    go_enter Try.func28, Try.ntmps28
    go_wp2_with fail
    obtain ⟨W1, hW1⟩ : ∃ W1, W1 = (w.alloc (.cells #[.int .i64 n, .int .i64 i, .int .i64 h, .bool s, .int .i64 p, .int .i64 b, .int .i64 d] 24)).alloc (.cells #[.int .i64 0, .int .i64 0, .int .i64 0, .bool false, .int .i64 0, .int .i64 0, .int .i64 0] 24) := ⟨_, rfl⟩
    rw [← hW1]
    obtain ⟨hA, hR, hB⟩ := change_world w W1 n i h s p b d hW1
    clear hW1
    refine (refCheck_any n i h s p b d _).mono ?_; rintro e w1 ⟨rfl, hb1⟩
    rw [HC.out]
    have A1 := hA.step hb1
    have R1 := hR.step hb1
    have B1 := below_step hB hb1
    clear hA hR hB hb1
    have a0 := A1.cell 0
    have af0 := A1.free 0
    have rc0 := R1.cell 0
    have rf0 := R1.free 0
    have a1 := A1.cell 1
    have af1 := A1.free 1
    have rc1 := R1.cell 1
    have rf1 := R1.free 1
    have a2 := A1.cell 2
    have af2 := A1.free 2
    have rc2 := R1.cell 2
    have rf2 := R1.free 2
    have a3 := A1.cell 3
    have af3 := A1.free 3
    have rc3 := R1.cell 3
    have rf3 := R1.free 3
    have a4 := A1.cell 4
    have af4 := A1.free 4
    have rc4 := R1.cell 4
    have rf4 := R1.free 4
    have a5 := A1.cell 5
    have af5 := A1.free 5
    have rc5 := R1.cell 5
    have rf5 := R1.free 5
    have a6 := A1.cell 6
    have af6 := A1.free 6
    have rc6 := R1.cell 6
    have rf6 := R1.free 6
    simp at a0 a1 a2 a3 a4 a5 a6 rc0 rc1 rc2 rc3 rc4 rc5 rc6
    go_wp2_with fail
    have F := put7 R1 (t := 24) (v0 := .int .i64 0) (v1 := .int .i64 0) (v2 := .int .i64 0) (v3 := .bool false) (v4 := .int .i64 0) (v5 := .int .i64 0) (v6 := .int .i64 0)
    have q0 := F.cell 0
    have q1 := F.cell 1
    have q2 := F.cell 2
    have q3 := F.cell 3
    have q4 := F.cell 4
    have q5 := F.cell 5
    have q6 := F.cell 6
    simp at q0 q1 q2 q3 q4 q5 q6
    exact bodyPost_ret (v := .tuple #[.agg #[.int .i64 0, .int .i64 0, .int .i64 0, .bool false, .int .i64 0, .int .i64 0, .int .i64 0], .int .i64 1]) (by simp [results, Try.results28, go_sem, q0, q1, q2, q3, q4, q5, q6]) rfl ⟨by rw [H.out]; rfl, below7 B1 (by simp)⟩
  have HC := Lib.hid hc
  by_cases hv : v < 0
  · have H := Lib.hid (show letR ⟨n, i, h, s, p, b, d⟩ v = (⟨n, i, h, s, p, b, d⟩, 1) by unfold letR; rw [if_pos hc, if_pos hv])
    clear hc
    go_enter Try.func28, Try.ntmps28
    go_wp2_with fail
    obtain ⟨W1, hW1⟩ : ∃ W1, W1 = (w.alloc (.cells #[.int .i64 n, .int .i64 i, .int .i64 h, .bool s, .int .i64 p, .int .i64 b, .int .i64 d] 24)).alloc (.cells #[.int .i64 0, .int .i64 0, .int .i64 0, .bool false, .int .i64 0, .int .i64 0, .int .i64 0] 24) := ⟨_, rfl⟩
    rw [← hW1]
    obtain ⟨hA, hR, hB⟩ := change_world w W1 n i h s p b d hW1
    clear hW1
    refine (refCheck_any n i h s p b d _).mono ?_; rintro e w1 ⟨rfl, hb1⟩
    rw [HC.out]
    have A1 := hA.step hb1
    have R1 := hR.step hb1
    have B1 := below_step hB hb1
    clear hA hR hB hb1
    have a0 := A1.cell 0
    have af0 := A1.free 0
    have rc0 := R1.cell 0
    have rf0 := R1.free 0
    have a1 := A1.cell 1
    have af1 := A1.free 1
    have rc1 := R1.cell 1
    have rf1 := R1.free 1
    have a2 := A1.cell 2
    have af2 := A1.free 2
    have rc2 := R1.cell 2
    have rf2 := R1.free 2
    have a3 := A1.cell 3
    have af3 := A1.free 3
    have rc3 := R1.cell 3
    have rf3 := R1.free 3
    have a4 := A1.cell 4
    have af4 := A1.free 4
    have rc4 := R1.cell 4
    have rf4 := R1.free 4
    have a5 := A1.cell 5
    have af5 := A1.free 5
    have rc5 := R1.cell 5
    have rf5 := R1.free 5
    have a6 := A1.cell 6
    have af6 := A1.free 6
    have rc6 := R1.cell 6
    have rf6 := R1.free 6
    simp at a0 a1 a2 a3 a4 a5 a6 rc0 rc1 rc2 rc3 rc4 rc5 rc6
    go_wp2_with fail
    have F := put7 R1 (t := 24) (v0 := .int .i64 n) (v1 := .int .i64 i) (v2 := .int .i64 h) (v3 := .bool s) (v4 := .int .i64 p) (v5 := .int .i64 b) (v6 := .int .i64 d)
    have q0 := F.cell 0
    have q1 := F.cell 1
    have q2 := F.cell 2
    have q3 := F.cell 3
    have q4 := F.cell 4
    have q5 := F.cell 5
    have q6 := F.cell 6
    simp at q0 q1 q2 q3 q4 q5 q6
    exact bodyPost_ret (v := .tuple #[.agg #[.int .i64 n, .int .i64 i, .int .i64 h, .bool s, .int .i64 p, .int .i64 b, .int .i64 d], .int .i64 1]) (by simp [results, Try.results28, go_sem, q0, q1, q2, q3, q4, q5, q6]) rfl ⟨by rw [H.out]; rfl, below7 B1 (by simp)⟩
  cases s
  · obtain ⟨⟨i0, i1⟩, ⟨h0, h1⟩, hp, hb, hd⟩ := good_open hc
    by_cases ho : h < v
    · have H := Lib.hid (show letR ⟨n, i, h, false, p, b, d⟩ v = (⟨n, i, h, false, p, b, d⟩, 19) by unfold letR; rw [if_pos hc, if_neg hv, if_neg (by simp), if_pos ho])
      clear hc hp hb hd
      go_enter Try.func28, Try.ntmps28
      go_wp2_with fail
      obtain ⟨W1, hW1⟩ : ∃ W1, W1 = (w.alloc (.cells #[.int .i64 n, .int .i64 i, .int .i64 h, .bool false, .int .i64 p, .int .i64 b, .int .i64 d] 24)).alloc (.cells #[.int .i64 0, .int .i64 0, .int .i64 0, .bool false, .int .i64 0, .int .i64 0, .int .i64 0] 24) := ⟨_, rfl⟩
      rw [← hW1]
      obtain ⟨hA, hR, hB⟩ := change_world w W1 n i h false p b d hW1
      clear hW1
      refine (refCheck_any n i h false p b d _).mono ?_; rintro e w1 ⟨rfl, hb1⟩
      rw [HC.out]
      have A1 := hA.step hb1
      have R1 := hR.step hb1
      have B1 := below_step hB hb1
      clear hA hR hB hb1
      have a0 := A1.cell 0
      have af0 := A1.free 0
      have rc0 := R1.cell 0
      have rf0 := R1.free 0
      have a1 := A1.cell 1
      have af1 := A1.free 1
      have rc1 := R1.cell 1
      have rf1 := R1.free 1
      have a2 := A1.cell 2
      have af2 := A1.free 2
      have rc2 := R1.cell 2
      have rf2 := R1.free 2
      have a3 := A1.cell 3
      have af3 := A1.free 3
      have rc3 := R1.cell 3
      have rf3 := R1.free 3
      have a4 := A1.cell 4
      have af4 := A1.free 4
      have rc4 := R1.cell 4
      have rf4 := R1.free 4
      have a5 := A1.cell 5
      have af5 := A1.free 5
      have rc5 := R1.cell 5
      have rf5 := R1.free 5
      have a6 := A1.cell 6
      have af6 := A1.free 6
      have rc6 := R1.cell 6
      have rf6 := R1.free 6
      simp at a0 a1 a2 a3 a4 a5 a6 rc0 rc1 rc2 rc3 rc4 rc5 rc6
      go_wp2_with fail
      have F := put7 R1 (t := 24) (v0 := .int .i64 n) (v1 := .int .i64 i) (v2 := .int .i64 h) (v3 := .bool false) (v4 := .int .i64 p) (v5 := .int .i64 b) (v6 := .int .i64 d)
      have q0 := F.cell 0
      have q1 := F.cell 1
      have q2 := F.cell 2
      have q3 := F.cell 3
      have q4 := F.cell 4
      have q5 := F.cell 5
      have q6 := F.cell 6
      simp at q0 q1 q2 q3 q4 q5 q6
      exact bodyPost_ret (v := .tuple #[.agg #[.int .i64 n, .int .i64 i, .int .i64 h, .bool false, .int .i64 p, .int .i64 b, .int .i64 d], .int .i64 19]) (by simp [results, Try.results28, go_sem, q0, q1, q2, q3, q4, q5, q6]) rfl ⟨by rw [H.out]; rfl, below7 B1 (by simp)⟩
    · have H := Lib.hid (show letR ⟨n, i, h, false, p, b, d⟩ v = (⟨n, i, h - v, false, p, b, d⟩, 0) by unfold letR; rw [if_pos hc, if_neg hv, if_neg (by simp), if_neg ho])
      clear hc hp hb hd
      go_enter Try.func28, Try.ntmps28
      go_wp2_with fail
      obtain ⟨W1, hW1⟩ : ∃ W1, W1 = (w.alloc (.cells #[.int .i64 n, .int .i64 i, .int .i64 h, .bool false, .int .i64 p, .int .i64 b, .int .i64 d] 24)).alloc (.cells #[.int .i64 0, .int .i64 0, .int .i64 0, .bool false, .int .i64 0, .int .i64 0, .int .i64 0] 24) := ⟨_, rfl⟩
      rw [← hW1]
      obtain ⟨hA, hR, hB⟩ := change_world w W1 n i h false p b d hW1
      clear hW1
      refine (refCheck_any n i h false p b d _).mono ?_; rintro e w1 ⟨rfl, hb1⟩
      rw [HC.out]
      have A1 := hA.step hb1
      have R1 := hR.step hb1
      have B1 := below_step hB hb1
      clear hA hR hB hb1
      have a0 := A1.cell 0
      have af0 := A1.free 0
      have rc0 := R1.cell 0
      have rf0 := R1.free 0
      have a1 := A1.cell 1
      have af1 := A1.free 1
      have rc1 := R1.cell 1
      have rf1 := R1.free 1
      have a2 := A1.cell 2
      have af2 := A1.free 2
      have rc2 := R1.cell 2
      have rf2 := R1.free 2
      have a3 := A1.cell 3
      have af3 := A1.free 3
      have rc3 := R1.cell 3
      have rf3 := R1.free 3
      have a4 := A1.cell 4
      have af4 := A1.free 4
      have rc4 := R1.cell 4
      have rf4 := R1.free 4
      have a5 := A1.cell 5
      have af5 := A1.free 5
      have rc5 := R1.cell 5
      have rf5 := R1.free 5
      have a6 := A1.cell 6
      have af6 := A1.free 6
      have rc6 := R1.cell 6
      have rf6 := R1.free 6
      simp at a0 a1 a2 a3 a4 a5 a6 rc0 rc1 rc2 rc3 rc4 rc5 rc6
      have AF := (A1.put 2 (.int .i64 (h - v)))
      have g0 := AF.cell 0
      have g1 := AF.cell 1
      have g2 := AF.cell 2
      have g3 := AF.cell 3
      have g4 := AF.cell 4
      have g5 := AF.cell 5
      have g6 := AF.cell 6
      simp at g0 g1 g2 g3 g4 g5 g6
      go_wp2_with fail
      have F := put7 (R1.far (p := ⟨w.heap.size, 2, none⟩) (by simp) (.int .i64 (h - v))) (t := 24) (v0 := .int .i64 n) (v1 := .int .i64 i) (v2 := .int .i64 (h - v)) (v3 := .bool false) (v4 := .int .i64 p) (v5 := .int .i64 b) (v6 := .int .i64 d)
      have q0 := F.cell 0
      have q1 := F.cell 1
      have q2 := F.cell 2
      have q3 := F.cell 3
      have q4 := F.cell 4
      have q5 := F.cell 5
      have q6 := F.cell 6
      simp at q0 q1 q2 q3 q4 q5 q6
      exact bodyPost_ret (v := .tuple #[.agg #[.int .i64 n, .int .i64 i, .int .i64 (h - v), .bool false, .int .i64 p, .int .i64 b, .int .i64 d], .int .i64 0]) (by simp [results, Try.results28, go_sem, q0, q1, q2, q3, q4, q5, q6]) rfl ⟨by rw [H.out]; rfl, below7 (B1.setCell (p := ⟨w.heap.size, 2, none⟩) (Nat.le_refl _) (.int .i64 (h - v))) (by simp)⟩
  · have H := Lib.hid (show letR ⟨n, i, h, true, p, b, d⟩ v = (⟨n, i, h, true, p, b, d⟩, 13) by unfold letR; rw [if_pos hc, if_neg hv, if_pos rfl])
    clear hc
    go_enter Try.func28, Try.ntmps28
    go_wp2_with fail
    obtain ⟨W1, hW1⟩ : ∃ W1, W1 = (w.alloc (.cells #[.int .i64 n, .int .i64 i, .int .i64 h, .bool true, .int .i64 p, .int .i64 b, .int .i64 d] 24)).alloc (.cells #[.int .i64 0, .int .i64 0, .int .i64 0, .bool false, .int .i64 0, .int .i64 0, .int .i64 0] 24) := ⟨_, rfl⟩
    rw [← hW1]
    obtain ⟨hA, hR, hB⟩ := change_world w W1 n i h true p b d hW1
    clear hW1
    refine (refCheck_any n i h true p b d _).mono ?_; rintro e w1 ⟨rfl, hb1⟩
    rw [HC.out]
    have A1 := hA.step hb1
    have R1 := hR.step hb1
    have B1 := below_step hB hb1
    clear hA hR hB hb1
    have a0 := A1.cell 0
    have af0 := A1.free 0
    have rc0 := R1.cell 0
    have rf0 := R1.free 0
    have a1 := A1.cell 1
    have af1 := A1.free 1
    have rc1 := R1.cell 1
    have rf1 := R1.free 1
    have a2 := A1.cell 2
    have af2 := A1.free 2
    have rc2 := R1.cell 2
    have rf2 := R1.free 2
    have a3 := A1.cell 3
    have af3 := A1.free 3
    have rc3 := R1.cell 3
    have rf3 := R1.free 3
    have a4 := A1.cell 4
    have af4 := A1.free 4
    have rc4 := R1.cell 4
    have rf4 := R1.free 4
    have a5 := A1.cell 5
    have af5 := A1.free 5
    have rc5 := R1.cell 5
    have rf5 := R1.free 5
    have a6 := A1.cell 6
    have af6 := A1.free 6
    have rc6 := R1.cell 6
    have rf6 := R1.free 6
    simp at a0 a1 a2 a3 a4 a5 a6 rc0 rc1 rc2 rc3 rc4 rc5 rc6
    go_wp2_with fail
    have F := put7 R1 (t := 24) (v0 := .int .i64 n) (v1 := .int .i64 i) (v2 := .int .i64 h) (v3 := .bool true) (v4 := .int .i64 p) (v5 := .int .i64 b) (v6 := .int .i64 d)
    have q0 := F.cell 0
    have q1 := F.cell 1
    have q2 := F.cell 2
    have q3 := F.cell 3
    have q4 := F.cell 4
    have q5 := F.cell 5
    have q6 := F.cell 6
    simp at q0 q1 q2 q3 q4 q5 q6
    exact bodyPost_ret (v := .tuple #[.agg #[.int .i64 n, .int .i64 i, .int .i64 h, .bool true, .int .i64 p, .int .i64 b, .int .i64 d], .int .i64 13]) (by simp [results, Try.results28, go_sem, q0, q1, q2, q3, q4, q5, q6]) rfl ⟨by rw [H.out]; rfl, below7 B1 (by simp)⟩

end Go.Proofs.Ytmbapehnagpmbaa
