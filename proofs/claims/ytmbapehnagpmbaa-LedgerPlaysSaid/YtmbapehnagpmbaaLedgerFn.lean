/- The contracts of package ledger's four closures, of change, Put, Hold, Let, Settle and Free. -/
import Derived.Test.YtmbapehnagpmbaaLedger
namespace Go.Proofs.Ytmbapehnagpmbaa
open Go.RowKit
set_option linter.unusedVariables false

theorem settle1_any (g bt : Nat) (n i h : Int) (s : Bool) (p b d t : Int) (w : World) (hA : At w g 24 #[.int .i64 n, .int .i64 i, .int .i64 h, .bool s, .int .i64 p, .int .i64 b, .int .i64 d]) (hT : At w bt 2 #[.int .i64 t]) (hne : bt ≠ g) (hi : 0 ≤ i ∧ i ≤ 1125899906842624) (ht : 0 ≤ t ∧ t ≤ 1125899906842624) :
    Calls Try.prog 22 #[.pointer (some ⟨g, 0, none⟩), .pointer (some ⟨bt, 0, none⟩)] w fun e w' => e = .returned (.int .i64 0) ∧
      At w' g 24 #[.int .i64 n, .int .i64 i, .int .i64 0, .bool true, .int .i64 (if t < i then t else i), .int .i64 (i - if t < i then t else i), .int .i64 (t - if t < i then t else i)] ∧ w.grownBy w' (some g) := by
  obtain ⟨m, hm⟩ : ∃ m, m = (if t < i then t else i) := ⟨_, rfl⟩
  have hm0 : 0 ≤ m ∧ m ≤ 1125899906842624 := by rw [hm]; split <;> omega
  have Hm := Lib.hid hm
  rw [← hm]
  clear hm
  have c0 := hA.cell 1
  have c1 := hA.cell 4
  have c2 := hT.cell 0
  have f1 := hA.free 4
  obtain ⟨i0, i1⟩ := hi
  obtain ⟨t0, t1⟩ := ht
  go_enter Try.func22, Try.ntmps22
  go_wp2_with fail
  go_region
  rw [← Hm.out]
  have hA1 := (hA.put 4 (.int .i64 m)).drew
  have hT1 : At (w.setCell ⟨g, 4, none⟩ (.int .i64 m)).drew bt 2 #[.int .i64 t] := (hT.far (by simpa using hne) _).drew
  have hO1 := only_drew (only_put (World.grownBy.refl w (some g)) 4 (.int .i64 m))
  obtain ⟨W1, hW1⟩ : ∃ W1, W1 = (w.setCell ⟨g, 4, none⟩ (.int .i64 m)).drew := ⟨_, rfl⟩
  rw [← hW1] at hA1 hT1 hO1 ⊢
  clear hW1 c0 c1 c2 f1
  have a1 := hA1.cell 1
  have a4 := hA1.cell 4
  have a5 := hA1.cell 5
  have a6 := hA1.cell 6
  have f5 := hA1.free 5
  have f6 := hA1.free 6
  have t0 := hT1.cell 0
  simp at a1 a4 a5 a6 t0
  go_wp2_with fail
  go_region
  have hA2 := ((hA1.put 5 (.int .i64 (i - m))).put 6 (.int .i64 (t - m))).drew
  have hO2 := only_drew (only_put (only_put hO1 5 (.int .i64 (i - m))) 6 (.int .i64 (t - m)))
  obtain ⟨W2, hW2⟩ : ∃ W2, W2 = ((W1.setCell ⟨g, 5, none⟩ (.int .i64 (i - m))).setCell ⟨g, 6, none⟩ (.int .i64 (t - m))).drew := ⟨_, rfl⟩
  rw [← hW2] at hA2 hO2 ⊢
  clear hW2 hO1 hA1 hT1 a1 a4 a5 a6 t0 f5 f6
  have a2 := hA2.cell 2
  have a3 := hA2.cell 3
  have f2 := hA2.free 2
  have f3 := hA2.free 3
  simp at a2 a3
  go_wp2_with fail
  go_ret
  exact ⟨rfl, (hA2.put 3 (.bool true)).put 2 (.int .i64 0), only_put (only_put hO2 3 (.bool true)) 2 (.int .i64 0)⟩

def freeV (n i h : Int) (s : Bool) (p b d : Int) : Int := if Acc.ok ⟨n, i, h, s, p, b, d⟩ = true ∧ s = false then i - h else 0
theorem acc_ok {n i h : Int} {s : Bool} {p b d : Int} (h1 : Acc.ok ⟨n, i, h, s, p, b, d⟩ = true) : Acc.Ok ⟨n, i, h, s, p, b, d⟩ := of_decide_eq_true h1
theorem free_any (n i h : Int) (s : Bool) (p b d : Int) (w : World) :
    Calls Try.prog 13 #[.agg #[.int .i64 n, .int .i64 i, .int .i64 h, .bool s, .int .i64 p, .int .i64 b, .int .i64 d]] w fun e w' => e = .returned (.int .i64 (freeV n i h s p b d)) ∧ Below w.heap.size w w' := by
  cases hc : Acc.ok ⟨n, i, h, s, p, b, d⟩
  · have H := Lib.hid (show freeV n i h s p b d = 0 by unfold freeV; rw [if_neg (by rw [hc]; simp)])
    have HC := Lib.hid hc
    clear hc
    go_enter Try.func13, Try.ntmps13
    go_wp2_with fail
    refine (check_any n i h s p b d _).mono ?_; rintro e w1 ⟨rfl, hb1⟩
    rw [HC.out]
    go_wp2_with fail
    go_ret
    exact ⟨by rw [H.out]; rfl, below_step ((Below.refl _ _).alloc (Nat.le_refl _) _) hb1⟩
  · have HC := Lib.hid hc
    have hk := acc_ok hc
    have k1 : 0 ≤ i ∧ i ≤ 1125899906842624 := hk.2.1
    have k2 : 0 ≤ h ∧ h ≤ 1125899906842624 := hk.2.2.1
    cases s
    · have H := Lib.hid (show freeV n i h false p b d = i - h by unfold freeV; rw [if_pos ⟨hc, rfl⟩])
      clear hc hk
      go_enter Try.func13, Try.ntmps13
      go_wp2_with fail
      refine (check_any n i h false p b d _).mono ?_; rintro e w1 ⟨rfl, hb1⟩
      rw [HC.out]
      have hA := (At.new w 24 #[.int .i64 n, .int .i64 i, .int .i64 h, .bool false, .int .i64 p, .int .i64 b, .int .i64 d]).step hb1
      have a1 := hA.cell 1
      have a2 := hA.cell 2
      have a3 := hA.cell 3
      simp at a1 a2 a3
      go_wp2_with fail
      go_ret
      exact ⟨by rw [H.out]; rfl, below_step ((Below.refl _ _).alloc (Nat.le_refl _) _) hb1⟩
    · have H := Lib.hid (show freeV n i h true p b d = 0 by unfold freeV; rw [if_neg (by simp)])
      clear hc hk
      go_enter Try.func13, Try.ntmps13
      go_wp2_with fail
      refine (check_any n i h true p b d _).mono ?_; rintro e w1 ⟨rfl, hb1⟩
      rw [HC.out]
      have hA := (At.new w 24 #[.int .i64 n, .int .i64 i, .int .i64 h, .bool true, .int .i64 p, .int .i64 b, .int .i64 d]).step hb1
      have a3 := hA.cell 3
      simp at a3
      go_wp2_with fail
      go_ret
      exact ⟨by rw [H.out]; rfl, below_step ((Below.refl _ _).alloc (Nat.le_refl _) _) hb1⟩


theorem put1_no (g bt : Nat) (n i h : Int) (s : Bool) (p b d v : Int) (w : World) (hA : At w g 24 #[.int .i64 n, .int .i64 i, .int .i64 h, .bool s, .int .i64 p, .int .i64 b, .int .i64 d]) (hT : At w bt 2 #[.int .i64 v]) (hi : 0 ≤ i ∧ i ≤ 1125899906842624) (hv0 : 1 ≤ v) (hv : 1125899906842624 - i < v) :
    Calls Try.prog 23 #[.pointer (some ⟨g, 0, none⟩), .pointer (some ⟨bt, 0, none⟩)] w fun e w' => e = .returned (.int .i64 16) ∧ At w' g 24 #[.int .i64 n, .int .i64 i, .int .i64 h, .bool s, .int .i64 p, .int .i64 b, .int .i64 d] ∧ w.grownBy w' (some g) := by
  have c0 := hA.cell 1
  have c2 := hT.cell 0
  simp at c0 c2
  go_enter Try.func23, Try.ntmps23
  go_wp2_with fail
  go_region
  go_wp2_with fail
  go_ret
  exact ⟨rfl, hA.drew, only_drew (World.grownBy.refl w _)⟩
theorem put1_yes (g bt : Nat) (n i h : Int) (s : Bool) (p b d v : Int) (w : World) (hA : At w g 24 #[.int .i64 n, .int .i64 i, .int .i64 h, .bool s, .int .i64 p, .int .i64 b, .int .i64 d]) (hT : At w bt 2 #[.int .i64 v]) (hi : 0 ≤ i ∧ i ≤ 1125899906842624) (hv0 : 1 ≤ v) (hv : ¬ 1125899906842624 - i < v) :
    Calls Try.prog 23 #[.pointer (some ⟨g, 0, none⟩), .pointer (some ⟨bt, 0, none⟩)] w fun e w' => e = .returned (.int .i64 0) ∧ At w' g 24 #[.int .i64 n, .int .i64 (i + v), .int .i64 h, .bool s, .int .i64 p, .int .i64 b, .int .i64 d] ∧ w.grownBy w' (some g) := by
  have c0 := hA.cell 1
  have c2 := hT.cell 0
  have f0 := hA.free 1
  simp at c0 c2
  go_enter Try.func23, Try.ntmps23
  go_wp2_with fail
  go_region
  go_wp2_with fail
  go_region
  go_wp2_with fail
  go_ret
  exact ⟨rfl, (hA.put 1 (.int .i64 (i + v))).drew, only_drew (only_drew (only_put (World.grownBy.refl w _) 1 _))⟩

theorem let1_no (g bt : Nat) (n i h : Int) (s : Bool) (p b d v : Int) (w : World) (hA : At w g 24 #[.int .i64 n, .int .i64 i, .int .i64 h, .bool s, .int .i64 p, .int .i64 b, .int .i64 d]) (hT : At w bt 2 #[.int .i64 v]) (hh : 0 ≤ h ∧ h ≤ 1125899906842624) (hv0 : 0 ≤ v) (hv : h < v) :
    Calls Try.prog 25 #[.pointer (some ⟨g, 0, none⟩), .pointer (some ⟨bt, 0, none⟩)] w fun e w' => e = .returned (.int .i64 19) ∧ At w' g 24 #[.int .i64 n, .int .i64 i, .int .i64 h, .bool s, .int .i64 p, .int .i64 b, .int .i64 d] ∧ w.grownBy w' (some g) := by
  have c0 := hA.cell 2
  have c2 := hT.cell 0
  simp at c0 c2
  go_enter Try.func25, Try.ntmps25
  go_wp2_with fail
  go_region
  go_wp2_with fail
  go_ret
  exact ⟨rfl, hA.drew, only_drew (World.grownBy.refl w _)⟩
theorem let1_yes (g bt : Nat) (n i h : Int) (s : Bool) (p b d v : Int) (w : World) (hA : At w g 24 #[.int .i64 n, .int .i64 i, .int .i64 h, .bool s, .int .i64 p, .int .i64 b, .int .i64 d]) (hT : At w bt 2 #[.int .i64 v]) (hh : 0 ≤ h ∧ h ≤ 1125899906842624) (hv0 : 0 ≤ v) (hv : ¬ h < v) :
    Calls Try.prog 25 #[.pointer (some ⟨g, 0, none⟩), .pointer (some ⟨bt, 0, none⟩)] w fun e w' => e = .returned (.int .i64 0) ∧ At w' g 24 #[.int .i64 n, .int .i64 i, .int .i64 (h - v), .bool s, .int .i64 p, .int .i64 b, .int .i64 d] ∧ w.grownBy w' (some g) := by
  have c0 := hA.cell 2
  have c2 := hT.cell 0
  have f0 := hA.free 2
  simp at c0 c2
  go_enter Try.func25, Try.ntmps25
  go_wp2_with fail
  go_region
  go_wp2_with fail
  go_region
  go_wp2_with fail
  go_ret
  exact ⟨rfl, (hA.put 2 (.int .i64 (h - v))).drew, only_drew (only_drew (only_put (World.grownBy.refl w _) 2 _))⟩


theorem hold1_no (g bt : Nat) (n i h p b d v : Int) (w : World) (hA : At w g 24 #[.int .i64 n, .int .i64 i, .int .i64 h, .bool false, .int .i64 p, .int .i64 b, .int .i64 d]) (hT : At w bt 2 #[.int .i64 v]) (hk : Acc.ok ⟨n, i, h, false, p, b, d⟩ = true) (hv0 : 0 ≤ v) (hv : i - h < v) :
    Calls Try.prog 24 #[.pointer (some ⟨g, 0, none⟩), .pointer (some ⟨bt, 0, none⟩)] w fun e w' => e = .returned (.int .i64 19) ∧ At w' g 24 #[.int .i64 n, .int .i64 i, .int .i64 h, .bool false, .int .i64 p, .int .i64 b, .int .i64 d] ∧ w.grownBy w' (some g) := by
  have hf := Lib.hid (show freeV n i h false p b d = i - h by unfold freeV; rw [if_pos ⟨hk, rfl⟩])
  have k1 : 0 ≤ i ∧ i ≤ 1125899906842624 := (acc_ok hk).2.1
  have k2 : 0 ≤ h ∧ h ≤ 1125899906842624 := (acc_ok hk).2.2.1
  clear hk
  have c0 := hA.cell 0
  have c1 := hA.cell 1
  have c2 := hA.cell 2
  have c3 := hA.cell 3
  have c4 := hA.cell 4
  have c5 := hA.cell 5
  have c6 := hA.cell 6
  have v0 := hT.cell 0
  have m0 := hA.lt
  have m1 := hT.lt
  go_enter Try.func24, Try.ntmps24
  go_wp2_with fail
  go_region_held3 (fun w' => w'.cell? ⟨bt, 0, none⟩ = some (.int .i64 v) ∧ w'.cell? ⟨g, 0, none⟩ = some (.int .i64 n) ∧ w'.cell? ⟨g, 1, none⟩ = some (.int .i64 i) ∧ w'.cell? ⟨g, 2, none⟩ = some (.int .i64 h) ∧ w'.cell? ⟨g, 3, none⟩ = some (.bool false) ∧ w'.cell? ⟨g, 4, none⟩ = some (.int .i64 p) ∧ w'.cell? ⟨g, 5, none⟩ = some (.int .i64 b) ∧ w'.cell? ⟨g, 6, none⟩ = some (.int .i64 d))
    (first | exact ⟨v0, c0, c1, c2, c3, c4, c5, c6⟩ | exact ⟨T4.cell 0, A4.cell 0, A4.cell 1, A4.cell 2, A4.cell 3, A4.cell 4, A4.cell 5, A4.cell 6⟩)
    (first
      | (go_at_call 13; refine (free_any n i h false p b d _).mono ?_; rintro e w4 ⟨rfl, hb4⟩; rw [hf.out]; have A4 := hA.drew.step hb4; have T4 := hT.drew.step hb4))
  have O4 := only_step (only_drew (World.grownBy.refl w (some g))) hb4
  clear c0 c1 c2 c3 c4 c5 c6 v0
  have c2 := A4.cell 2
  have v0 := T4.cell 0
  have f0 := A4.free 2
  simp at c2 v0
  go_wp2_with fail
  go_ret
  exact ⟨rfl, A4, O4⟩

theorem hold1_yes (g bt : Nat) (n i h p b d v : Int) (w : World) (hA : At w g 24 #[.int .i64 n, .int .i64 i, .int .i64 h, .bool false, .int .i64 p, .int .i64 b, .int .i64 d]) (hT : At w bt 2 #[.int .i64 v]) (hk : Acc.ok ⟨n, i, h, false, p, b, d⟩ = true) (hv0 : 0 ≤ v) (hv : ¬ i - h < v) :
    Calls Try.prog 24 #[.pointer (some ⟨g, 0, none⟩), .pointer (some ⟨bt, 0, none⟩)] w fun e w' => e = .returned (.int .i64 0) ∧ At w' g 24 #[.int .i64 n, .int .i64 i, .int .i64 (h + v), .bool false, .int .i64 p, .int .i64 b, .int .i64 d] ∧ w.grownBy w' (some g) := by
  have hf := Lib.hid (show freeV n i h false p b d = i - h by unfold freeV; rw [if_pos ⟨hk, rfl⟩])
  have k1 : 0 ≤ i ∧ i ≤ 1125899906842624 := (acc_ok hk).2.1
  have k2 : 0 ≤ h ∧ h ≤ 1125899906842624 := (acc_ok hk).2.2.1
  clear hk
  have c0 := hA.cell 0
  have c1 := hA.cell 1
  have c2 := hA.cell 2
  have c3 := hA.cell 3
  have c4 := hA.cell 4
  have c5 := hA.cell 5
  have c6 := hA.cell 6
  have v0 := hT.cell 0
  have m0 := hA.lt
  have m1 := hT.lt
  go_enter Try.func24, Try.ntmps24
  go_wp2_with fail
  go_region_held3 (fun w' => w'.cell? ⟨bt, 0, none⟩ = some (.int .i64 v) ∧ w'.cell? ⟨g, 0, none⟩ = some (.int .i64 n) ∧ w'.cell? ⟨g, 1, none⟩ = some (.int .i64 i) ∧ w'.cell? ⟨g, 2, none⟩ = some (.int .i64 h) ∧ w'.cell? ⟨g, 3, none⟩ = some (.bool false) ∧ w'.cell? ⟨g, 4, none⟩ = some (.int .i64 p) ∧ w'.cell? ⟨g, 5, none⟩ = some (.int .i64 b) ∧ w'.cell? ⟨g, 6, none⟩ = some (.int .i64 d))
    (first | exact ⟨v0, c0, c1, c2, c3, c4, c5, c6⟩ | exact ⟨T4.cell 0, A4.cell 0, A4.cell 1, A4.cell 2, A4.cell 3, A4.cell 4, A4.cell 5, A4.cell 6⟩)
    (first
      | (go_at_call 13; refine (free_any n i h false p b d _).mono ?_; rintro e w4 ⟨rfl, hb4⟩; rw [hf.out]; have A4 := hA.drew.step hb4; have T4 := hT.drew.step hb4))
  have O4 := only_step (only_drew (World.grownBy.refl w (some g))) hb4
  clear c0 c1 c2 c3 c4 c5 c6 v0
  have c2 := A4.cell 2
  have v0 := T4.cell 0
  have f0 := A4.free 2
  simp at c2 v0
  go_wp2_with fail
  go_region
  go_wp2_with fail
  go_ret
  exact ⟨rfl, (A4.put 2 (.int .i64 (h + v))).drew, only_drew (only_put O4 2 _)⟩

end Go.Proofs.Ytmbapehnagpmbaa
