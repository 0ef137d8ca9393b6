/- The contracts of package ledger's change, by its ways, and of Put, Hold, Let, Settle. -/
import Derived.Test.YtmbapehnagpmbaaLedgerFn
namespace Go.Proofs.Ytmbapehnagpmbaa
open Go.RowKit
set_option linter.unusedVariables false

theorem put7 {w : World} {g : Nat} {t : TypeId} {u0 u1 u2 u3 u4 u5 u6 v0 v1 v2 v3 v4 v5 v6 : Value} (h : At w g t #[u0, u1, u2, u3, u4, u5, u6]) :
    At (((((((w.setCell ⟨g, 0, none⟩ v0).setCell ⟨g, 1, none⟩ v1).setCell ⟨g, 2, none⟩ v2).setCell ⟨g, 3, none⟩ v3).setCell ⟨g, 4, none⟩ v4).setCell ⟨g, 5, none⟩ v5).setCell ⟨g, 6, none⟩ v6) g t #[v0, v1, v2, v3, v4, v5, v6] := by
  have h0 : At (w.setCell ⟨g, 0, none⟩ v0) g t #[v0, u1, u2, u3, u4, u5, u6] := h.put 0 v0
  have h1 : At ((w.setCell ⟨g, 0, none⟩ v0).setCell ⟨g, 1, none⟩ v1) g t #[v0, v1, u2, u3, u4, u5, u6] := h0.put 1 v1
  have h2 : At (((w.setCell ⟨g, 0, none⟩ v0).setCell ⟨g, 1, none⟩ v1).setCell ⟨g, 2, none⟩ v2) g t #[v0, v1, v2, u3, u4, u5, u6] := h1.put 2 v2
  have h3 : At ((((w.setCell ⟨g, 0, none⟩ v0).setCell ⟨g, 1, none⟩ v1).setCell ⟨g, 2, none⟩ v2).setCell ⟨g, 3, none⟩ v3) g t #[v0, v1, v2, v3, u4, u5, u6] := h2.put 3 v3
  have h4 : At (((((w.setCell ⟨g, 0, none⟩ v0).setCell ⟨g, 1, none⟩ v1).setCell ⟨g, 2, none⟩ v2).setCell ⟨g, 3, none⟩ v3).setCell ⟨g, 4, none⟩ v4) g t #[v0, v1, v2, v3, v4, u5, u6] := h3.put 4 v4
  have h5 : At ((((((w.setCell ⟨g, 0, none⟩ v0).setCell ⟨g, 1, none⟩ v1).setCell ⟨g, 2, none⟩ v2).setCell ⟨g, 3, none⟩ v3).setCell ⟨g, 4, none⟩ v4).setCell ⟨g, 5, none⟩ v5) g t #[v0, v1, v2, v3, v4, v5, u6] := h4.put 5 v5
  have h6 : At (((((((w.setCell ⟨g, 0, none⟩ v0).setCell ⟨g, 1, none⟩ v1).setCell ⟨g, 2, none⟩ v2).setCell ⟨g, 3, none⟩ v3).setCell ⟨g, 4, none⟩ v4).setCell ⟨g, 5, none⟩ v5).setCell ⟨g, 6, none⟩ v6) g t #[v0, v1, v2, v3, v4, v5, v6] := h5.put 6 v6
  exact h6
theorem below7 {B : Nat} {a w : World} {g : Nat} {v0 v1 v2 v3 v4 v5 v6 : Value} (h : Below B a w) (hg : B ≤ g) :
    Below B a (((((((w.setCell ⟨g, 0, none⟩ v0).setCell ⟨g, 1, none⟩ v1).setCell ⟨g, 2, none⟩ v2).setCell ⟨g, 3, none⟩ v3).setCell ⟨g, 4, none⟩ v4).setCell ⟨g, 5, none⟩ v5).setCell ⟨g, 6, none⟩ v6) :=
  ((((((h.setCell (p := ⟨g, 0, none⟩) hg v0).setCell (p := ⟨g, 1, none⟩) hg v1).setCell (p := ⟨g, 2, none⟩) hg v2).setCell (p := ⟨g, 3, none⟩) hg v3).setCell (p := ⟨g, 4, none⟩) hg v4).setCell (p := ⟨g, 5, none⟩) hg v5).setCell (p := ⟨g, 6, none⟩) hg v6
theorem change_world (w W : World) (n i h : Int) (s : Bool) (p b d : Int) (hW : W = ((w.alloc (.cells #[.int .i64 n, .int .i64 i, .int .i64 h, .bool s, .int .i64 p, .int .i64 b, .int .i64 d] 24)).alloc (.cells #[.int .i64 0, .int .i64 0, .int .i64 0, .bool false, .int .i64 0, .int .i64 0, .int .i64 0] 24))) : At W w.heap.size 24 #[.int .i64 n, .int .i64 i, .int .i64 h, .bool s, .int .i64 p, .int .i64 b, .int .i64 d] ∧ At W (w.heap.size + 1) 24 #[.int .i64 0, .int .i64 0, .int .i64 0, .bool false, .int .i64 0, .int .i64 0, .int .i64 0] ∧ Below w.heap.size w W := by
  subst hW
  refine ⟨(At.new _ _ _).alloc _, ?_, ((Below.refl _ _).alloc (Nat.le_refl _) _).alloc (by simp) _⟩
  have h1 := At.new (w.alloc (.cells #[.int .i64 n, .int .i64 i, .int .i64 h, .bool s, .int .i64 p, .int .i64 b, .int .i64 d] 24)) 24 #[.int .i64 0, .int .i64 0, .int .i64 0, .bool false, .int .i64 0, .int .i64 0, .int .i64 0]
  simpa using h1


set_option maxRecDepth 100000 in
set_option maxHeartbeats 3200000 in
theorem change_bad (n i h : Int) (s : Bool) (p b d : Int) (may : Bool) (how : Value) (w : World) (hk : Acc.ok ⟨n, i, h, s, p, b, d⟩ = false) :
    Calls Try.prog 20 #[.agg #[.int .i64 n, .int .i64 i, .int .i64 h, .bool s, .int .i64 p, .int .i64 b, .int .i64 d], .bool may, how] w fun e w' => e = .returned (.tuple #[.agg #[.int .i64 0, .int .i64 0, .int .i64 0, .bool false, .int .i64 0, .int .i64 0, .int .i64 0], .int .i64 1]) ∧ Below w.heap.size w w' := by
  have HC := Lib.hid hk
  clear hk
  go_enter Try.func20, Try.ntmps20
  go_wp2_with fail
  obtain ⟨W1, hW1⟩ : ∃ W1, W1 = (w.alloc (.cells #[.int .i64 n, .int .i64 i, .int .i64 h, .bool s, .int .i64 p, .int .i64 b, .int .i64 d] 24)).alloc (.cells #[.int .i64 0, .int .i64 0, .int .i64 0, .bool false, .int .i64 0, .int .i64 0, .int .i64 0] 24) := ⟨_, rfl⟩
  rw [← hW1]
  obtain ⟨hA, hR, hB⟩ := change_world w W1 n i h s p b d hW1
  clear hW1
  refine (check_any n i h s p b d _).mono ?_; rintro e w1 ⟨rfl, hb1⟩
  rw [HC.out]
  have A1 := hA.step hb1
  have R1 := hR.step hb1
  have B1 := below_step hB hb1
  have rc0 := R1.cell 0
  have rf0 := R1.free 0
  have rc1 := R1.cell 1
  have rf1 := R1.free 1
  have rc2 := R1.cell 2
  have rf2 := R1.free 2
  have rc3 := R1.cell 3
  have rf3 := R1.free 3
  have rc4 := R1.cell 4
  have rf4 := R1.free 4
  have rc5 := R1.cell 5
  have rf5 := R1.free 5
  have rc6 := R1.cell 6
  have rf6 := R1.free 6
  go_wp2_with fail
  have F := put7 (R1) (t := 24) (v0 := .int .i64 0) (v1 := .int .i64 0) (v2 := .int .i64 0) (v3 := .bool false) (v4 := .int .i64 0) (v5 := .int .i64 0) (v6 := .int .i64 0)
  have q0 := F.cell 0
  have q1 := F.cell 1
  have q2 := F.cell 2
  have q3 := F.cell 3
  have q4 := F.cell 4
  have q5 := F.cell 5
  have q6 := F.cell 6
  simp at q0 q1 q2 q3 q4 q5 q6
  exact bodyPost_ret (v := .tuple #[.agg #[.int .i64 0, .int .i64 0, .int .i64 0, .bool false, .int .i64 0, .int .i64 0, .int .i64 0], .int .i64 1]) (by simp [results, Try.results20, go_sem, q0, q1, q2, q3, q4, q5, q6]) rfl ⟨rfl, below7 B1 (by simp)⟩

set_option maxRecDepth 100000 in
set_option maxHeartbeats 3200000 in
theorem change_no (n i h : Int) (s : Bool) (p b d : Int) (how : Value) (w : World) (hk : Acc.ok ⟨n, i, h, s, p, b, d⟩ = true) :
    Calls Try.prog 20 #[.agg #[.int .i64 n, .int .i64 i, .int .i64 h, .bool s, .int .i64 p, .int .i64 b, .int .i64 d], .bool false, how] w fun e w' => e = .returned (.tuple #[.agg #[.int .i64 n, .int .i64 i, .int .i64 h, .bool s, .int .i64 p, .int .i64 b, .int .i64 d], .int .i64 1]) ∧ Below w.heap.size w w' := by
  have HC := Lib.hid hk
  clear hk
  go_enter Try.func20, Try.ntmps20
  go_wp2_with fail
  obtain ⟨W1, hW1⟩ : ∃ W1, W1 = (w.alloc (.cells #[.int .i64 n, .int .i64 i, .int .i64 h, .bool s, .int .i64 p, .int .i64 b, .int .i64 d] 24)).alloc (.cells #[.int .i64 0, .int .i64 0, .int .i64 0, .bool false, .int .i64 0, .int .i64 0, .int .i64 0] 24) := ⟨_, rfl⟩
  rw [← hW1]
  obtain ⟨hA, hR, hB⟩ := change_world w W1 n i h s p b d hW1
  clear hW1
  refine (check_any n i h s p b d _).mono ?_; rintro e w1 ⟨rfl, hb1⟩
  rw [HC.out]
  have A1 := hA.step hb1
  have R1 := hR.step hb1
  have B1 := below_step hB hb1
  have rc0 := R1.cell 0
  have rf0 := R1.free 0
  have rc1 := R1.cell 1
  have rf1 := R1.free 1
  have rc2 := R1.cell 2
  have rf2 := R1.free 2
  have rc3 := R1.cell 3
  have rf3 := R1.free 3
  have rc4 := R1.cell 4
  have rf4 := R1.free 4
  have rc5 := R1.cell 5
  have rf5 := R1.free 5
  have rc6 := R1.cell 6
  have rf6 := R1.free 6
  have ac0 := A1.cell 0
  have ac1 := A1.cell 1
  have ac2 := A1.cell 2
  have ac3 := A1.cell 3
  have ac4 := A1.cell 4
  have ac5 := A1.cell 5
  have ac6 := A1.cell 6
  go_wp2_with fail
  have F := put7 (R1) (t := 24) (v0 := .int .i64 n) (v1 := .int .i64 i) (v2 := .int .i64 h) (v3 := .bool s) (v4 := .int .i64 p) (v5 := .int .i64 b) (v6 := .int .i64 d)
  have q0 := F.cell 0
  have q1 := F.cell 1
  have q2 := F.cell 2
  have q3 := F.cell 3
  have q4 := F.cell 4
  have q5 := F.cell 5
  have q6 := F.cell 6
  simp at q0 q1 q2 q3 q4 q5 q6
  exact bodyPost_ret (v := .tuple #[.agg #[.int .i64 n, .int .i64 i, .int .i64 h, .bool s, .int .i64 p, .int .i64 b, .int .i64 d], .int .i64 1]) (by simp [results, Try.results20, go_sem, q0, q1, q2, q3, q4, q5, q6]) rfl ⟨rfl, below7 B1 (by simp)⟩

set_option maxRecDepth 100000 in
set_option maxHeartbeats 3200000 in
theorem change_set (n i h : Int) (p b d : Int) (how : Value) (w : World) (hk : Acc.ok ⟨n, i, h, true, p, b, d⟩ = true) :
    Calls Try.prog 20 #[.agg #[.int .i64 n, .int .i64 i, .int .i64 h, .bool true, .int .i64 p, .int .i64 b, .int .i64 d], .bool true, how] w fun e w' => e = .returned (.tuple #[.agg #[.int .i64 n, .int .i64 i, .int .i64 h, .bool true, .int .i64 p, .int .i64 b, .int .i64 d], .int .i64 13]) ∧ Below w.heap.size w w' := by
  have HC := Lib.hid hk
  clear hk
  go_enter Try.func20, Try.ntmps20
  go_wp2_with fail
  obtain ⟨W1, hW1⟩ : ∃ W1, W1 = (w.alloc (.cells #[.int .i64 n, .int .i64 i, .int .i64 h, .bool true, .int .i64 p, .int .i64 b, .int .i64 d] 24)).alloc (.cells #[.int .i64 0, .int .i64 0, .int .i64 0, .bool false, .int .i64 0, .int .i64 0, .int .i64 0] 24) := ⟨_, rfl⟩
  rw [← hW1]
  obtain ⟨hA, hR, hB⟩ := change_world w W1 n i h true p b d hW1
  clear hW1
  refine (check_any n i h true p b d _).mono ?_; rintro e w1 ⟨rfl, hb1⟩
  rw [HC.out]
  have A1 := hA.step hb1
  have R1 := hR.step hb1
  have B1 := below_step hB hb1
  have rc0 := R1.cell 0
  have rf0 := R1.free 0
  have rc1 := R1.cell 1
  have rf1 := R1.free 1
  have rc2 := R1.cell 2
  have rf2 := R1.free 2
  have rc3 := R1.cell 3
  have rf3 := R1.free 3
  have rc4 := R1.cell 4
  have rf4 := R1.free 4
  have rc5 := R1.cell 5
  have rf5 := R1.free 5
  have rc6 := R1.cell 6
  have rf6 := R1.free 6
  have ac0 := A1.cell 0
  have ac1 := A1.cell 1
  have ac2 := A1.cell 2
  have ac3 := A1.cell 3
  have ac4 := A1.cell 4
  have ac5 := A1.cell 5
  have ac6 := A1.cell 6
  go_wp2_with fail
  have F := put7 (R1) (t := 24) (v0 := .int .i64 n) (v1 := .int .i64 i) (v2 := .int .i64 h) (v3 := .bool true) (v4 := .int .i64 p) (v5 := .int .i64 b) (v6 := .int .i64 d)
  have q0 := F.cell 0
  have q1 := F.cell 1
  have q2 := F.cell 2
  have q3 := F.cell 3
  have q4 := F.cell 4
  have q5 := F.cell 5
  have q6 := F.cell 6
  simp at q0 q1 q2 q3 q4 q5 q6
  exact bodyPost_ret (v := .tuple #[.agg #[.int .i64 n, .int .i64 i, .int .i64 h, .bool true, .int .i64 p, .int .i64 b, .int .i64 d], .int .i64 13]) (by simp [results, Try.results20, go_sem, q0, q1, q2, q3, q4, q5, q6]) rfl ⟨rfl, below7 B1 (by simp)⟩

/-! closures -/

set_option maxRecDepth 100000 in
set_option maxHeartbeats 3200000 in
theorem change_put_no (n i h p b d v : Int) (bt : Nat) (w : World) (hT : At w bt 2 #[.int .i64 v]) (hk : Acc.ok ⟨n, i, h, false, p, b, d⟩ = true) (hv0 : 1 ≤ v) (hv : 1125899906842624 - i < v) :
    Calls Try.prog 20 #[.agg #[.int .i64 n, .int .i64 i, .int .i64 h, .bool false, .int .i64 p, .int .i64 b, .int .i64 d], .bool true, .func (.func 23) #[] #[.pointer (some ⟨bt, 0, none⟩)]] w fun e w' => e = .returned (.tuple #[.agg #[.int .i64 n, .int .i64 i, .int .i64 h, .bool false, .int .i64 p, .int .i64 b, .int .i64 d], .int .i64 16]) ∧ Below w.heap.size w w' := by
  have HC := Lib.hid hk
  have HI : 0 ≤ i ∧ i ≤ 1125899906842624 := (acc_ok hk).2.1
  have HH : 0 ≤ h ∧ h ≤ 1125899906842624 := (acc_ok hk).2.2.1
  clear hk
  go_enter Try.func20, Try.ntmps20
  go_wp2_with fail
  obtain ⟨W1, hW1⟩ : ∃ W1, W1 = (w.alloc (.cells #[.int .i64 n, .int .i64 i, .int .i64 h, .bool false, .int .i64 p, .int .i64 b, .int .i64 d] 24)).alloc (.cells #[.int .i64 0, .int .i64 0, .int .i64 0, .bool false, .int .i64 0, .int .i64 0, .int .i64 0] 24) := ⟨_, rfl⟩
  rw [← hW1]
  obtain ⟨hA, hR, hB⟩ := change_world w W1 n i h false p b d hW1
  have hT1 : At W1 bt 2 #[.int .i64 v] := by rw [hW1]; exact (hT.alloc _).alloc _
  have lt0 := hT.lt
  clear hW1 hT
  refine (check_any n i h false p b d _).mono ?_; rintro e w1 ⟨rfl, hb1⟩
  rw [HC.out]
  have A1 := hA.step hb1
  have R1 := hR.step hb1
  have T1 := hT1.step hb1
  have B1 := below_step hB hb1
  have l1 := R1.lt
  have lT := T1.lt
  clear hA hR hT1 hB hb1
  have ac0 := A1.cell 0
  have ac1 := A1.cell 1
  have ac2 := A1.cell 2
  have ac3 := A1.cell 3
  have ac4 := A1.cell 4
  have ac5 := A1.cell 5
  have ac6 := A1.cell 6
  go_wp2_with fail
  clear ac0 ac1 ac2 ac3 ac4 ac5 ac6
  refine (put1_no w1.heap.size bt n i h false p b d v _ (At.new _ _ _) (T1.alloc _) HI hv0 hv).mono ?_; rintro e w2 ⟨rfl, X2, hg2⟩
  have A2 := (A1.alloc (.cells #[.int .i64 n, .int .i64 i, .int .i64 h, .bool false, .int .i64 p, .int .i64 b, .int .i64 d] 24)).grown hg2 (by simp; omega)
  have R2 := (R1.alloc (.cells #[.int .i64 n, .int .i64 i, .int .i64 h, .bool false, .int .i64 p, .int .i64 b, .int .i64 d] 24)).grown hg2 (by simp; omega)
  have B2 := below_row (B1.alloc B1.size (.cells #[.int .i64 n, .int .i64 i, .int .i64 h, .bool false, .int .i64 p, .int .i64 b, .int .i64 d] 24)) hg2 (by omega)
  have rc0 := R2.cell 0
  have rf0 := R2.free 0
  have rc1 := R2.cell 1
  have rf1 := R2.free 1
  have rc2 := R2.cell 2
  have rf2 := R2.free 2
  have rc3 := R2.cell 3
  have rf3 := R2.free 3
  have rc4 := R2.cell 4
  have rf4 := R2.free 4
  have rc5 := R2.cell 5
  have rf5 := R2.free 5
  have rc6 := R2.cell 6
  have rf6 := R2.free 6
  have ac0 := A2.cell 0
  have ac1 := A2.cell 1
  have ac2 := A2.cell 2
  have ac3 := A2.cell 3
  have ac4 := A2.cell 4
  have ac5 := A2.cell 5
  have ac6 := A2.cell 6
  have xc0 := X2.cell 0
  have xc1 := X2.cell 1
  have xc2 := X2.cell 2
  have xc3 := X2.cell 3
  have xc4 := X2.cell 4
  have xc5 := X2.cell 5
  have xc6 := X2.cell 6
  go_wp2_with fail
  have F := put7 (R2) (t := 24) (v0 := .int .i64 n) (v1 := .int .i64 i) (v2 := .int .i64 h) (v3 := .bool false) (v4 := .int .i64 p) (v5 := .int .i64 b) (v6 := .int .i64 d)
  have q0 := F.cell 0
  have q1 := F.cell 1
  have q2 := F.cell 2
  have q3 := F.cell 3
  have q4 := F.cell 4
  have q5 := F.cell 5
  have q6 := F.cell 6
  simp at q0 q1 q2 q3 q4 q5 q6
  exact bodyPost_ret (v := .tuple #[.agg #[.int .i64 n, .int .i64 i, .int .i64 h, .bool false, .int .i64 p, .int .i64 b, .int .i64 d], .int .i64 16]) (by simp [results, Try.results20, go_sem, q0, q1, q2, q3, q4, q5, q6]) rfl ⟨rfl, below7 B2 (by simp)⟩

set_option maxRecDepth 100000 in
set_option maxHeartbeats 3200000 in
theorem change_put_yes (n i h p b d v : Int) (bt : Nat) (w : World) (hT : At w bt 2 #[.int .i64 v]) (hk : Acc.ok ⟨n, i, h, false, p, b, d⟩ = true) (hv0 : 1 ≤ v) (hv : ¬ 1125899906842624 - i < v) :
    Calls Try.prog 20 #[.agg #[.int .i64 n, .int .i64 i, .int .i64 h, .bool false, .int .i64 p, .int .i64 b, .int .i64 d], .bool true, .func (.func 23) #[] #[.pointer (some ⟨bt, 0, none⟩)]] w fun e w' => e = .returned (.tuple #[.agg #[.int .i64 n, .int .i64 (i + v), .int .i64 h, .bool false, .int .i64 p, .int .i64 b, .int .i64 d], .int .i64 0]) ∧ Below w.heap.size w w' := by
  have HC := Lib.hid hk
  have HI : 0 ≤ i ∧ i ≤ 1125899906842624 := (acc_ok hk).2.1
  have HH : 0 ≤ h ∧ h ≤ 1125899906842624 := (acc_ok hk).2.2.1
  clear hk
  go_enter Try.func20, Try.ntmps20
  go_wp2_with fail
  obtain ⟨W1, hW1⟩ : ∃ W1, W1 = (w.alloc (.cells #[.int .i64 n, .int .i64 i, .int .i64 h, .bool false, .int .i64 p, .int .i64 b, .int .i64 d] 24)).alloc (.cells #[.int .i64 0, .int .i64 0, .int .i64 0, .bool false, .int .i64 0, .int .i64 0, .int .i64 0] 24) := ⟨_, rfl⟩
  rw [← hW1]
  obtain ⟨hA, hR, hB⟩ := change_world w W1 n i h false p b d hW1
  have hT1 : At W1 bt 2 #[.int .i64 v] := by rw [hW1]; exact (hT.alloc _).alloc _
  have lt0 := hT.lt
  clear hW1 hT
  refine (check_any n i h false p b d _).mono ?_; rintro e w1 ⟨rfl, hb1⟩
  rw [HC.out]
  have A1 := hA.step hb1
  have R1 := hR.step hb1
  have T1 := hT1.step hb1
  have B1 := below_step hB hb1
  have l1 := R1.lt
  have lT := T1.lt
  clear hA hR hT1 hB hb1
  have ac0 := A1.cell 0
  have ac1 := A1.cell 1
  have ac2 := A1.cell 2
  have ac3 := A1.cell 3
  have ac4 := A1.cell 4
  have ac5 := A1.cell 5
  have ac6 := A1.cell 6
  go_wp2_with fail
  clear ac0 ac1 ac2 ac3 ac4 ac5 ac6
  refine (put1_yes w1.heap.size bt n i h false p b d v _ (At.new _ _ _) (T1.alloc _) HI hv0 (by omega)).mono ?_; rintro e w2 ⟨rfl, X2, hg2⟩
  have A2 := (A1.alloc (.cells #[.int .i64 n, .int .i64 i, .int .i64 h, .bool false, .int .i64 p, .int .i64 b, .int .i64 d] 24)).grown hg2 (by simp; omega)
  have R2 := (R1.alloc (.cells #[.int .i64 n, .int .i64 i, .int .i64 h, .bool false, .int .i64 p, .int .i64 b, .int .i64 d] 24)).grown hg2 (by simp; omega)
  have B2 := below_row (B1.alloc B1.size (.cells #[.int .i64 n, .int .i64 i, .int .i64 h, .bool false, .int .i64 p, .int .i64 b, .int .i64 d] 24)) hg2 (by omega)
  have rc0 := R2.cell 0
  have rf0 := R2.free 0
  have rc1 := R2.cell 1
  have rf1 := R2.free 1
  have rc2 := R2.cell 2
  have rf2 := R2.free 2
  have rc3 := R2.cell 3
  have rf3 := R2.free 3
  have rc4 := R2.cell 4
  have rf4 := R2.free 4
  have rc5 := R2.cell 5
  have rf5 := R2.free 5
  have rc6 := R2.cell 6
  have rf6 := R2.free 6
  have ac0 := A2.cell 0
  have ac1 := A2.cell 1
  have ac2 := A2.cell 2
  have ac3 := A2.cell 3
  have ac4 := A2.cell 4
  have ac5 := A2.cell 5
  have ac6 := A2.cell 6
  have xc0 := X2.cell 0
  have xc1 := X2.cell 1
  have xc2 := X2.cell 2
  have xc3 := X2.cell 3
  have xc4 := X2.cell 4
  have xc5 := X2.cell 5
  have xc6 := X2.cell 6
  go_wp2_with fail
  have F := put7 (R2) (t := 24) (v0 := .int .i64 n) (v1 := .int .i64 (i + v)) (v2 := .int .i64 h) (v3 := .bool false) (v4 := .int .i64 p) (v5 := .int .i64 b) (v6 := .int .i64 d)
  have q0 := F.cell 0
  have q1 := F.cell 1
  have q2 := F.cell 2
  have q3 := F.cell 3
  have q4 := F.cell 4
  have q5 := F.cell 5
  have q6 := F.cell 6
  simp at q0 q1 q2 q3 q4 q5 q6
  exact bodyPost_ret (v := .tuple #[.agg #[.int .i64 n, .int .i64 (i + v), .int .i64 h, .bool false, .int .i64 p, .int .i64 b, .int .i64 d], .int .i64 0]) (by simp [results, Try.results20, go_sem, q0, q1, q2, q3, q4, q5, q6]) rfl ⟨rfl, below7 B2 (by simp)⟩

set_option maxRecDepth 100000 in
set_option maxHeartbeats 3200000 in
theorem change_let_no (n i h p b d v : Int) (bt : Nat) (w : World) (hT : At w bt 2 #[.int .i64 v]) (hk : Acc.ok ⟨n, i, h, false, p, b, d⟩ = true) (hv0 : 0 ≤ v) (hv : h < v) :
    Calls Try.prog 20 #[.agg #[.int .i64 n, .int .i64 i, .int .i64 h, .bool false, .int .i64 p, .int .i64 b, .int .i64 d], .bool true, .func (.func 25) #[] #[.pointer (some ⟨bt, 0, none⟩)]] w fun e w' => e = .returned (.tuple #[.agg #[.int .i64 n, .int .i64 i, .int .i64 h, .bool false, .int .i64 p, .int .i64 b, .int .i64 d], .int .i64 19]) ∧ Below w.heap.size w w' := by
  have HC := Lib.hid hk
  have HI : 0 ≤ i ∧ i ≤ 1125899906842624 := (acc_ok hk).2.1
  have HH : 0 ≤ h ∧ h ≤ 1125899906842624 := (acc_ok hk).2.2.1
  clear hk
  go_enter Try.func20, Try.ntmps20
  go_wp2_with fail
  obtain ⟨W1, hW1⟩ : ∃ W1, W1 = (w.alloc (.cells #[.int .i64 n, .int .i64 i, .int .i64 h, .bool false, .int .i64 p, .int .i64 b, .int .i64 d] 24)).alloc (.cells #[.int .i64 0, .int .i64 0, .int .i64 0, .bool false, .int .i64 0, .int .i64 0, .int .i64 0] 24) := ⟨_, rfl⟩
  rw [← hW1]
  obtain ⟨hA, hR, hB⟩ := change_world w W1 n i h false p b d hW1
  have hT1 : At W1 bt 2 #[.int .i64 v] := by rw [hW1]; exact (hT.alloc _).alloc _
  have lt0 := hT.lt
  clear hW1 hT
  refine (check_any n i h false p b d _).mono ?_; rintro e w1 ⟨rfl, hb1⟩
  rw [HC.out]
  have A1 := hA.step hb1
  have R1 := hR.step hb1
  have T1 := hT1.step hb1
  have B1 := below_step hB hb1
  have l1 := R1.lt
  have lT := T1.lt
  clear hA hR hT1 hB hb1
  have ac0 := A1.cell 0
  have ac1 := A1.cell 1
  have ac2 := A1.cell 2
  have ac3 := A1.cell 3
  have ac4 := A1.cell 4
  have ac5 := A1.cell 5
  have ac6 := A1.cell 6
  go_wp2_with fail
  clear ac0 ac1 ac2 ac3 ac4 ac5 ac6
  refine (let1_no w1.heap.size bt n i h false p b d v _ (At.new _ _ _) (T1.alloc _) HH hv0 hv).mono ?_; rintro e w2 ⟨rfl, X2, hg2⟩
  have A2 := (A1.alloc (.cells #[.int .i64 n, .int .i64 i, .int .i64 h, .bool false, .int .i64 p, .int .i64 b, .int .i64 d] 24)).grown hg2 (by simp; omega)
  have R2 := (R1.alloc (.cells #[.int .i64 n, .int .i64 i, .int .i64 h, .bool false, .int .i64 p, .int .i64 b, .int .i64 d] 24)).grown hg2 (by simp; omega)
  have B2 := below_row (B1.alloc B1.size (.cells #[.int .i64 n, .int .i64 i, .int .i64 h, .bool false, .int .i64 p, .int .i64 b, .int .i64 d] 24)) hg2 (by omega)
  have rc0 := R2.cell 0
  have rf0 := R2.free 0
  have rc1 := R2.cell 1
  have rf1 := R2.free 1
  have rc2 := R2.cell 2
  have rf2 := R2.free 2
  have rc3 := R2.cell 3
  have rf3 := R2.free 3
  have rc4 := R2.cell 4
  have rf4 := R2.free 4
  have rc5 := R2.cell 5
  have rf5 := R2.free 5
  have rc6 := R2.cell 6
  have rf6 := R2.free 6
  have ac0 := A2.cell 0
  have ac1 := A2.cell 1
  have ac2 := A2.cell 2
  have ac3 := A2.cell 3
  have ac4 := A2.cell 4
  have ac5 := A2.cell 5
  have ac6 := A2.cell 6
  have xc0 := X2.cell 0
  have xc1 := X2.cell 1
  have xc2 := X2.cell 2
  have xc3 := X2.cell 3
  have xc4 := X2.cell 4
  have xc5 := X2.cell 5
  have xc6 := X2.cell 6
  go_wp2_with fail
  have F := put7 (R2) (t := 24) (v0 := .int .i64 n) (v1 := .int .i64 i) (v2 := .int .i64 h) (v3 := .bool false) (v4 := .int .i64 p) (v5 := .int .i64 b) (v6 := .int .i64 d)
  have q0 := F.cell 0
  have q1 := F.cell 1
  have q2 := F.cell 2
  have q3 := F.cell 3
  have q4 := F.cell 4
  have q5 := F.cell 5
  have q6 := F.cell 6
  simp at q0 q1 q2 q3 q4 q5 q6
  exact bodyPost_ret (v := .tuple #[.agg #[.int .i64 n, .int .i64 i, .int .i64 h, .bool false, .int .i64 p, .int .i64 b, .int .i64 d], .int .i64 19]) (by simp [results, Try.results20, go_sem, q0, q1, q2, q3, q4, q5, q6]) rfl ⟨rfl, below7 B2 (by simp)⟩

set_option maxRecDepth 100000 in
set_option maxHeartbeats 3200000 in
theorem change_let_yes (n i h p b d v : Int) (bt : Nat) (w : World) (hT : At w bt 2 #[.int .i64 v]) (hk : Acc.ok ⟨n, i, h, false, p, b, d⟩ = true) (hv0 : 0 ≤ v) (hv : ¬ h < v) :
    Calls Try.prog 20 #[.agg #[.int .i64 n, .int .i64 i, .int .i64 h, .bool false, .int .i64 p, .int .i64 b, .int .i64 d], .bool true, .func (.func 25) #[] #[.pointer (some ⟨bt, 0, none⟩)]] w fun e w' => e = .returned (.tuple #[.agg #[.int .i64 n, .int .i64 i, .int .i64 (h - v), .bool false, .int .i64 p, .int .i64 b, .int .i64 d], .int .i64 0]) ∧ Below w.heap.size w w' := by
  have HC := Lib.hid hk
  have HI : 0 ≤ i ∧ i ≤ 1125899906842624 := (acc_ok hk).2.1
  have HH : 0 ≤ h ∧ h ≤ 1125899906842624 := (acc_ok hk).2.2.1
  clear hk
  go_enter Try.func20, Try.ntmps20
  go_wp2_with fail
  obtain ⟨W1, hW1⟩ : ∃ W1, W1 = (w.alloc (.cells #[.int .i64 n, .int .i64 i, .int .i64 h, .bool false, .int .i64 p, .int .i64 b, .int .i64 d] 24)).alloc (.cells #[.int .i64 0, .int .i64 0, .int .i64 0, .bool false, .int .i64 0, .int .i64 0, .int .i64 0] 24) := ⟨_, rfl⟩
  rw [← hW1]
  obtain ⟨hA, hR, hB⟩ := change_world w W1 n i h false p b d hW1
  have hT1 : At W1 bt 2 #[.int .i64 v] := by rw [hW1]; exact (hT.alloc _).alloc _
  have lt0 := hT.lt
  clear hW1 hT
  refine (check_any n i h false p b d _).mono ?_; rintro e w1 ⟨rfl, hb1⟩
  rw [HC.out]
  have A1 := hA.step hb1
  have R1 := hR.step hb1
  have T1 := hT1.step hb1
  have B1 := below_step hB hb1
  have l1 := R1.lt
  have lT := T1.lt
  clear hA hR hT1 hB hb1
  have ac0 := A1.cell 0
  have ac1 := A1.cell 1
  have ac2 := A1.cell 2
  have ac3 := A1.cell 3
  have ac4 := A1.cell 4
  have ac5 := A1.cell 5
  have ac6 := A1.cell 6
  go_wp2_with fail
  clear ac0 ac1 ac2 ac3 ac4 ac5 ac6
  refine (let1_yes w1.heap.size bt n i h false p b d v _ (At.new _ _ _) (T1.alloc _) HH hv0 (by omega)).mono ?_; rintro e w2 ⟨rfl, X2, hg2⟩
  have A2 := (A1.alloc (.cells #[.int .i64 n, .int .i64 i, .int .i64 h, .bool false, .int .i64 p, .int .i64 b, .int .i64 d] 24)).grown hg2 (by simp; omega)
  have R2 := (R1.alloc (.cells #[.int .i64 n, .int .i64 i, .int .i64 h, .bool false, .int .i64 p, .int .i64 b, .int .i64 d] 24)).grown hg2 (by simp; omega)
  have B2 := below_row (B1.alloc B1.size (.cells #[.int .i64 n, .int .i64 i, .int .i64 h, .bool false, .int .i64 p, .int .i64 b, .int .i64 d] 24)) hg2 (by omega)
  have rc0 := R2.cell 0
  have rf0 := R2.free 0
  have rc1 := R2.cell 1
  have rf1 := R2.free 1
  have rc2 := R2.cell 2
  have rf2 := R2.free 2
  have rc3 := R2.cell 3
  have rf3 := R2.free 3
  have rc4 := R2.cell 4
  have rf4 := R2.free 4
  have rc5 := R2.cell 5
  have rf5 := R2.free 5
  have rc6 := R2.cell 6
  have rf6 := R2.free 6
  have ac0 := A2.cell 0
  have ac1 := A2.cell 1
  have ac2 := A2.cell 2
  have ac3 := A2.cell 3
  have ac4 := A2.cell 4
  have ac5 := A2.cell 5
  have ac6 := A2.cell 6
  have xc0 := X2.cell 0
  have xc1 := X2.cell 1
  have xc2 := X2.cell 2
  have xc3 := X2.cell 3
  have xc4 := X2.cell 4
  have xc5 := X2.cell 5
  have xc6 := X2.cell 6
  go_wp2_with fail
  have F := put7 (R2) (t := 24) (v0 := .int .i64 n) (v1 := .int .i64 i) (v2 := .int .i64 (h - v)) (v3 := .bool false) (v4 := .int .i64 p) (v5 := .int .i64 b) (v6 := .int .i64 d)
  have q0 := F.cell 0
  have q1 := F.cell 1
  have q2 := F.cell 2
  have q3 := F.cell 3
  have q4 := F.cell 4
  have q5 := F.cell 5
  have q6 := F.cell 6
  simp at q0 q1 q2 q3 q4 q5 q6
  exact bodyPost_ret (v := .tuple #[.agg #[.int .i64 n, .int .i64 i, .int .i64 (h - v), .bool false, .int .i64 p, .int .i64 b, .int .i64 d], .int .i64 0]) (by simp [results, Try.results20, go_sem, q0, q1, q2, q3, q4, q5, q6]) rfl ⟨rfl, below7 B2 (by simp)⟩

set_option maxRecDepth 100000 in
set_option maxHeartbeats 3200000 in
theorem change_hold_no (n i h p b d v : Int) (bt : Nat) (w : World) (hT : At w bt 2 #[.int .i64 v]) (hk : Acc.ok ⟨n, i, h, false, p, b, d⟩ = true) (hv0 : 0 ≤ v) (hv : i - h < v) :
    Calls Try.prog 20 #[.agg #[.int .i64 n, .int .i64 i, .int .i64 h, .bool false, .int .i64 p, .int .i64 b, .int .i64 d], .bool true, .func (.func 24) #[] #[.pointer (some ⟨bt, 0, none⟩)]] w fun e w' => e = .returned (.tuple #[.agg #[.int .i64 n, .int .i64 i, .int .i64 h, .bool false, .int .i64 p, .int .i64 b, .int .i64 d], .int .i64 19]) ∧ Below w.heap.size w w' := by
  have HC := Lib.hid hk
  have HI : 0 ≤ i ∧ i ≤ 1125899906842624 := (acc_ok hk).2.1
  have HH : 0 ≤ h ∧ h ≤ 1125899906842624 := (acc_ok hk).2.2.1
  clear hk
  go_enter Try.func20, Try.ntmps20
  go_wp2_with fail
  obtain ⟨W1, hW1⟩ : ∃ W1, W1 = (w.alloc (.cells #[.int .i64 n, .int .i64 i, .int .i64 h, .bool false, .int .i64 p, .int .i64 b, .int .i64 d] 24)).alloc (.cells #[.int .i64 0, .int .i64 0, .int .i64 0, .bool false, .int .i64 0, .int .i64 0, .int .i64 0] 24) := ⟨_, rfl⟩
  rw [← hW1]
  obtain ⟨hA, hR, hB⟩ := change_world w W1 n i h false p b d hW1
  have hT1 : At W1 bt 2 #[.int .i64 v] := by rw [hW1]; exact (hT.alloc _).alloc _
  have lt0 := hT.lt
  clear hW1 hT
  refine (check_any n i h false p b d _).mono ?_; rintro e w1 ⟨rfl, hb1⟩
  rw [HC.out]
  have A1 := hA.step hb1
  have R1 := hR.step hb1
  have T1 := hT1.step hb1
  have B1 := below_step hB hb1
  have l1 := R1.lt
  have lT := T1.lt
  clear hA hR hT1 hB hb1
  have ac0 := A1.cell 0
  have ac1 := A1.cell 1
  have ac2 := A1.cell 2
  have ac3 := A1.cell 3
  have ac4 := A1.cell 4
  have ac5 := A1.cell 5
  have ac6 := A1.cell 6
  go_wp2_with fail
  clear ac0 ac1 ac2 ac3 ac4 ac5 ac6
  refine (hold1_no w1.heap.size bt n i h p b d v _ (At.new _ _ _) (T1.alloc _) HC.out hv0 hv).mono ?_; rintro e w2 ⟨rfl, X2, hg2⟩
  have A2 := (A1.alloc (.cells #[.int .i64 n, .int .i64 i, .int .i64 h, .bool false, .int .i64 p, .int .i64 b, .int .i64 d] 24)).grown hg2 (by simp; omega)
  have R2 := (R1.alloc (.cells #[.int .i64 n, .int .i64 i, .int .i64 h, .bool false, .int .i64 p, .int .i64 b, .int .i64 d] 24)).grown hg2 (by simp; omega)
  have B2 := below_row (B1.alloc B1.size (.cells #[.int .i64 n, .int .i64 i, .int .i64 h, .bool false, .int .i64 p, .int .i64 b, .int .i64 d] 24)) hg2 (by omega)
  have rc0 := R2.cell 0
  have rf0 := R2.free 0
  have rc1 := R2.cell 1
  have rf1 := R2.free 1
  have rc2 := R2.cell 2
  have rf2 := R2.free 2
  have rc3 := R2.cell 3
  have rf3 := R2.free 3
  have rc4 := R2.cell 4
  have rf4 := R2.free 4
  have rc5 := R2.cell 5
  have rf5 := R2.free 5
  have rc6 := R2.cell 6
  have rf6 := R2.free 6
  have ac0 := A2.cell 0
  have ac1 := A2.cell 1
  have ac2 := A2.cell 2
  have ac3 := A2.cell 3
  have ac4 := A2.cell 4
  have ac5 := A2.cell 5
  have ac6 := A2.cell 6
  have xc0 := X2.cell 0
  have xc1 := X2.cell 1
  have xc2 := X2.cell 2
  have xc3 := X2.cell 3
  have xc4 := X2.cell 4
  have xc5 := X2.cell 5
  have xc6 := X2.cell 6
  go_wp2_with fail
  have F := put7 (R2) (t := 24) (v0 := .int .i64 n) (v1 := .int .i64 i) (v2 := .int .i64 h) (v3 := .bool false) (v4 := .int .i64 p) (v5 := .int .i64 b) (v6 := .int .i64 d)
  have q0 := F.cell 0
  have q1 := F.cell 1
  have q2 := F.cell 2
  have q3 := F.cell 3
  have q4 := F.cell 4
  have q5 := F.cell 5
  have q6 := F.cell 6
  simp at q0 q1 q2 q3 q4 q5 q6
  exact bodyPost_ret (v := .tuple #[.agg #[.int .i64 n, .int .i64 i, .int .i64 h, .bool false, .int .i64 p, .int .i64 b, .int .i64 d], .int .i64 19]) (by simp [results, Try.results20, go_sem, q0, q1, q2, q3, q4, q5, q6]) rfl ⟨rfl, below7 B2 (by simp)⟩

set_option maxRecDepth 100000 in
set_option maxHeartbeats 3200000 in
theorem change_hold_yes (n i h p b d v : Int) (bt : Nat) (w : World) (hT : At w bt 2 #[.int .i64 v]) (hk : Acc.ok ⟨n, i, h, false, p, b, d⟩ = true) (hv0 : 0 ≤ v) (hv : ¬ i - h < v) :
    Calls Try.prog 20 #[.agg #[.int .i64 n, .int .i64 i, .int .i64 h, .bool false, .int .i64 p, .int .i64 b, .int .i64 d], .bool true, .func (.func 24) #[] #[.pointer (some ⟨bt, 0, none⟩)]] w fun e w' => e = .returned (.tuple #[.agg #[.int .i64 n, .int .i64 i, .int .i64 (h + v), .bool false, .int .i64 p, .int .i64 b, .int .i64 d], .int .i64 0]) ∧ Below w.heap.size w w' := by
  have HC := Lib.hid hk
  have HI : 0 ≤ i ∧ i ≤ 1125899906842624 := (acc_ok hk).2.1
  have HH : 0 ≤ h ∧ h ≤ 1125899906842624 := (acc_ok hk).2.2.1
  clear hk
  go_enter Try.func20, Try.ntmps20
  go_wp2_with fail
  obtain ⟨W1, hW1⟩ : ∃ W1, W1 = (w.alloc (.cells #[.int .i64 n, .int .i64 i, .int .i64 h, .bool false, .int .i64 p, .int .i64 b, .int .i64 d] 24)).alloc (.cells #[.int .i64 0, .int .i64 0, .int .i64 0, .bool false, .int .i64 0, .int .i64 0, .int .i64 0] 24) := ⟨_, rfl⟩
  rw [← hW1]
  obtain ⟨hA, hR, hB⟩ := change_world w W1 n i h false p b d hW1
  have hT1 : At W1 bt 2 #[.int .i64 v] := by rw [hW1]; exact (hT.alloc _).alloc _
  have lt0 := hT.lt
  clear hW1 hT
  refine (check_any n i h false p b d _).mono ?_; rintro e w1 ⟨rfl, hb1⟩
  rw [HC.out]
  have A1 := hA.step hb1
  have R1 := hR.step hb1
  have T1 := hT1.step hb1
  have B1 := below_step hB hb1
  have l1 := R1.lt
  have lT := T1.lt
  clear hA hR hT1 hB hb1
  have ac0 := A1.cell 0
  have ac1 := A1.cell 1
  have ac2 := A1.cell 2
  have ac3 := A1.cell 3
  have ac4 := A1.cell 4
  have ac5 := A1.cell 5
  have ac6 := A1.cell 6
  go_wp2_with fail
  clear ac0 ac1 ac2 ac3 ac4 ac5 ac6
  refine (hold1_yes w1.heap.size bt n i h p b d v _ (At.new _ _ _) (T1.alloc _) HC.out hv0 (by omega)).mono ?_; rintro e w2 ⟨rfl, X2, hg2⟩
  have A2 := (A1.alloc (.cells #[.int .i64 n, .int .i64 i, .int .i64 h, .bool false, .int .i64 p, .int .i64 b, .int .i64 d] 24)).grown hg2 (by simp; omega)
  have R2 := (R1.alloc (.cells #[.int .i64 n, .int .i64 i, .int .i64 h, .bool false, .int .i64 p, .int .i64 b, .int .i64 d] 24)).grown hg2 (by simp; omega)
  have B2 := below_row (B1.alloc B1.size (.cells #[.int .i64 n, .int .i64 i, .int .i64 h, .bool false, .int .i64 p, .int .i64 b, .int .i64 d] 24)) hg2 (by omega)
  have rc0 := R2.cell 0
  have rf0 := R2.free 0
  have rc1 := R2.cell 1
  have rf1 := R2.free 1
  have rc2 := R2.cell 2
  have rf2 := R2.free 2
  have rc3 := R2.cell 3
  have rf3 := R2.free 3
  have rc4 := R2.cell 4
  have rf4 := R2.free 4
  have rc5 := R2.cell 5
  have rf5 := R2.free 5
  have rc6 := R2.cell 6
  have rf6 := R2.free 6
  have ac0 := A2.cell 0
  have ac1 := A2.cell 1
  have ac2 := A2.cell 2
  have ac3 := A2.cell 3
  have ac4 := A2.cell 4
  have ac5 := A2.cell 5
  have ac6 := A2.cell 6
  have xc0 := X2.cell 0
  have xc1 := X2.cell 1
  have xc2 := X2.cell 2
  have xc3 := X2.cell 3
  have xc4 := X2.cell 4
  have xc5 := X2.cell 5
  have xc6 := X2.cell 6
  go_wp2_with fail
  have F := put7 (R2) (t := 24) (v0 := .int .i64 n) (v1 := .int .i64 i) (v2 := .int .i64 (h + v)) (v3 := .bool false) (v4 := .int .i64 p) (v5 := .int .i64 b) (v6 := .int .i64 d)
  have q0 := F.cell 0
  have q1 := F.cell 1
  have q2 := F.cell 2
  have q3 := F.cell 3
  have q4 := F.cell 4
  have q5 := F.cell 5
  have q6 := F.cell 6
  simp at q0 q1 q2 q3 q4 q5 q6
  exact bodyPost_ret (v := .tuple #[.agg #[.int .i64 n, .int .i64 i, .int .i64 (h + v), .bool false, .int .i64 p, .int .i64 b, .int .i64 d], .int .i64 0]) (by simp [results, Try.results20, go_sem, q0, q1, q2, q3, q4, q5, q6]) rfl ⟨rfl, below7 B2 (by simp)⟩

set_option maxRecDepth 100000 in
set_option maxHeartbeats 3200000 in
theorem change_settle (n i h p b d v : Int) (bt : Nat) (w : World) (hT : At w bt 2 #[.int .i64 v]) (hk : Acc.ok ⟨n, i, h, false, p, b, d⟩ = true) (hv0 : 0 ≤ v) (hv : v ≤ 1125899906842624) (m : Int) (hm : m = (if v < i then v else i)) :
    Calls Try.prog 20 #[.agg #[.int .i64 n, .int .i64 i, .int .i64 h, .bool false, .int .i64 p, .int .i64 b, .int .i64 d], .bool true, .func (.func 22) #[] #[.pointer (some ⟨bt, 0, none⟩)]] w fun e w' => e = .returned (.tuple #[.agg #[.int .i64 n, .int .i64 i, .int .i64 0, .bool true, .int .i64 m, .int .i64 (i - m), .int .i64 (v - m)], .int .i64 0]) ∧ Below w.heap.size w w' := by
  have Hm := Lib.hid hm
  clear hm
  have HC := Lib.hid hk
  have HI : 0 ≤ i ∧ i ≤ 1125899906842624 := (acc_ok hk).2.1
  have HH : 0 ≤ h ∧ h ≤ 1125899906842624 := (acc_ok hk).2.2.1
  clear hk
  go_enter Try.func20, Try.ntmps20
  go_wp2_with fail
  obtain ⟨W1, hW1⟩ : ∃ W1, W1 = (w.alloc (.cells #[.int .i64 n, .int .i64 i, .int .i64 h, .bool false, .int .i64 p, .int .i64 b, .int .i64 d] 24)).alloc (.cells #[.int .i64 0, .int .i64 0, .int .i64 0, .bool false, .int .i64 0, .int .i64 0, .int .i64 0] 24) := ⟨_, rfl⟩
  rw [← hW1]
  obtain ⟨hA, hR, hB⟩ := change_world w W1 n i h false p b d hW1
  have hT1 : At W1 bt 2 #[.int .i64 v] := by rw [hW1]; exact (hT.alloc _).alloc _
  have lt0 := hT.lt
  clear hW1 hT
  refine (check_any n i h false p b d _).mono ?_; rintro e w1 ⟨rfl, hb1⟩
  rw [HC.out]
  have A1 := hA.step hb1
  have R1 := hR.step hb1
  have T1 := hT1.step hb1
  have B1 := below_step hB hb1
  have l1 := R1.lt
  have lT := T1.lt
  clear hA hR hT1 hB hb1
  have ac0 := A1.cell 0
  have ac1 := A1.cell 1
  have ac2 := A1.cell 2
  have ac3 := A1.cell 3
  have ac4 := A1.cell 4
  have ac5 := A1.cell 5
  have ac6 := A1.cell 6
  go_wp2_with fail
  clear ac0 ac1 ac2 ac3 ac4 ac5 ac6
  refine (settle1_any w1.heap.size bt n i h false p b d v _ (At.new _ _ _) (T1.alloc _) (by omega) HI ⟨hv0, hv⟩).mono ?_; rintro e w2 ⟨rfl, X2, hg2⟩
  rw [← Hm.out] at X2
  have A2 := (A1.alloc (.cells #[.int .i64 n, .int .i64 i, .int .i64 h, .bool false, .int .i64 p, .int .i64 b, .int .i64 d] 24)).grown hg2 (by simp; omega)
  have R2 := (R1.alloc (.cells #[.int .i64 n, .int .i64 i, .int .i64 h, .bool false, .int .i64 p, .int .i64 b, .int .i64 d] 24)).grown hg2 (by simp; omega)
  have B2 := below_row (B1.alloc B1.size (.cells #[.int .i64 n, .int .i64 i, .int .i64 h, .bool false, .int .i64 p, .int .i64 b, .int .i64 d] 24)) hg2 (by omega)
  have rc0 := R2.cell 0
  have rf0 := R2.free 0
  have rc1 := R2.cell 1
  have rf1 := R2.free 1
  have rc2 := R2.cell 2
  have rf2 := R2.free 2
  have rc3 := R2.cell 3
  have rf3 := R2.free 3
  have rc4 := R2.cell 4
  have rf4 := R2.free 4
  have rc5 := R2.cell 5
  have rf5 := R2.free 5
  have rc6 := R2.cell 6
  have rf6 := R2.free 6
  have ac0 := A2.cell 0
  have ac1 := A2.cell 1
  have ac2 := A2.cell 2
  have ac3 := A2.cell 3
  have ac4 := A2.cell 4
  have ac5 := A2.cell 5
  have ac6 := A2.cell 6
  have xc0 := X2.cell 0
  have xc1 := X2.cell 1
  have xc2 := X2.cell 2
  have xc3 := X2.cell 3
  have xc4 := X2.cell 4
  have xc5 := X2.cell 5
  have xc6 := X2.cell 6
  go_wp2_with fail
  have F := put7 (R2) (t := 24) (v0 := .int .i64 n) (v1 := .int .i64 i) (v2 := .int .i64 0) (v3 := .bool true) (v4 := .int .i64 m) (v5 := .int .i64 (i - m)) (v6 := .int .i64 (v - m))
  have q0 := F.cell 0
  have q1 := F.cell 1
  have q2 := F.cell 2
  have q3 := F.cell 3
  have q4 := F.cell 4
  have q5 := F.cell 5
  have q6 := F.cell 6
  simp at q0 q1 q2 q3 q4 q5 q6
  exact bodyPost_ret (v := .tuple #[.agg #[.int .i64 n, .int .i64 i, .int .i64 0, .bool true, .int .i64 m, .int .i64 (i - m), .int .i64 (v - m)], .int .i64 0]) (by simp [results, Try.results20, go_sem, q0, q1, q2, q3, q4, q5, q6]) rfl ⟨rfl, below7 B2 (by simp)⟩

end Go.Proofs.Ytmbapehnagpmbaa
