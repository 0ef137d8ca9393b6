/- The contract of package ledger's Settle: what it tells, for every account and total. -/
import Derived.Test.YtmbapehnagpmbaaLedgerTop
import Derived.Deep.AppendLies
namespace Go.Proofs.Ytmbapehnagpmbaa
open Go.RowKit
set_option linter.unusedVariables false
theorem far7 {w : World} {g g' : Nat} {t : TypeId} {cs : Array Value} {v0 v1 v2 v3 v4 v5 v6 : Value} (h : At w g t cs) (hne : g ≠ g') :
    At (((((((w.setCell ⟨g', 0, none⟩ v0).setCell ⟨g', 1, none⟩ v1).setCell ⟨g', 2, none⟩ v2).setCell ⟨g', 3, none⟩ v3).setCell ⟨g', 4, none⟩ v4).setCell ⟨g', 5, none⟩ v5).setCell ⟨g', 6, none⟩ v6) g t cs :=
  ((((((h.far (p := ⟨g', 0, none⟩) hne v0).far (p := ⟨g', 1, none⟩) hne v1).far (p := ⟨g', 2, none⟩) hne v2).far (p := ⟨g', 3, none⟩) hne v3).far (p := ⟨g', 4, none⟩) hne v4).far (p := ⟨g', 5, none⟩) hne v5).far (p := ⟨g', 6, none⟩) hne v6
theorem cells8 {w : World} {g g' : Nat} {t t' : TypeId} {v0 v1 v2 v3 v4 v5 v6 u : Value} (h : At w g t #[v0, v1, v2, v3, v4, v5, v6]) (h' : At w g' t' #[u]) :
    w.cell? ⟨g, 0, none⟩ = some v0 ∧ w.cell? ⟨g, 1, none⟩ = some v1 ∧ w.cell? ⟨g, 2, none⟩ = some v2 ∧ w.cell? ⟨g, 3, none⟩ = some v3 ∧ w.cell? ⟨g, 4, none⟩ = some v4 ∧ w.cell? ⟨g, 5, none⟩ = some v5 ∧ w.cell? ⟨g, 6, none⟩ = some v6 ∧ w.cell? ⟨g', 0, none⟩ = some u :=
  ⟨h.cell 0, h.cell 1, h.cell 2, h.cell 3, h.cell 4, h.cell 5, h.cell 6, h'.cell 0⟩
theorem sums_one (v : Int) : sumsB [v] = true ↔ 0 ≤ v ∧ v ≤ 1125899906842624 := by
  rw [sums_iff [v] (by simp)]
  constructor
  · intro h
    exact h 0 (by simp)
  · intro h k hk
    obtain rfl : k = 0 := by simpa using hk
    exact h

set_option maxRecDepth 100000 in
set_option maxHeartbeats 6400000 in
theorem settleOp_bad (n i h : Int) (s : Bool) (p b d v : Int) (m : Bool) (w : World) (hc : Acc.ok ⟨n, i, h, s, p, b, d⟩ = false) (hm : sumsB [v] = m) :
    Calls Try.prog 9 #[.agg #[.int .i64 n, .int .i64 i, .int .i64 h, .bool s, .int .i64 p, .int .i64 b, .int .i64 d], .int .i64 v] w fun e w' => e = .returned (resV (zeroAcc, 1)) ∧ Below w.heap.size w w' := by
  have HS := Lib.hid hm
  have HC := Lib.hid hc
  clear hc hm
  have hmf : ∀ (fn : Fn) (first cap : Array Value) (w : World), (Instr.makeFunc fn first cap).run Try.prog w = .ok (.func fn first cap) w := fun _ _ _ _ => rfl
  go_enter Try.func9, Try.ntmps9
  go_wp2_with fail
  obtain ⟨W1, hW1⟩ : ∃ W1, W1 = (((w.alloc (.cells #[.int .i64 n, .int .i64 i, .int .i64 h, .bool s, .int .i64 p, .int .i64 b, .int .i64 d] 24)).alloc (.cells #[.int .i64 v] 2)).alloc (.cells #[.int .i64 0, .int .i64 0, .int .i64 0, .bool false, .int .i64 0, .int .i64 0, .int .i64 0] 24)) := ⟨_, rfl⟩
  rw [← hW1]
  obtain ⟨hA, hT, hR, hB⟩ := op_world w W1 n i h s p b d v hW1
  clear hW1
  have hRow : Row64 (W1.alloc (.cells #[.int .i64 v] 2)) (some ⟨W1.heap.size, 0, none⟩) [v] := fun _ => ⟨W1.heap.size, 0, rfl, by simp, fun k hk => by
    obtain rfl : k = 0 := by simpa using hk
    exact (At.new W1 2 #[.int .i64 v]).cell 0⟩
  have m0 := hA.lt
  have m1 := hT.lt
  have m2 := hR.lt
  have ac0 := hA.cell 0
  have ac1 := hA.cell 1
  have ac2 := hA.cell 2
  have ac3 := hA.cell 3
  have ac4 := hA.cell 4
  have ac5 := hA.cell 5
  have ac6 := hA.cell 6
  have tc := hT.cell 0
  go_region_held3 (fun w' => w'.cell? ⟨w.heap.size, 0, none⟩ = some (.int .i64 n) ∧ w'.cell? ⟨w.heap.size, 1, none⟩ = some (.int .i64 i) ∧ w'.cell? ⟨w.heap.size, 2, none⟩ = some (.int .i64 h) ∧ w'.cell? ⟨w.heap.size, 3, none⟩ = some (.bool s) ∧ w'.cell? ⟨w.heap.size, 4, none⟩ = some (.int .i64 p) ∧ w'.cell? ⟨w.heap.size, 5, none⟩ = some (.int .i64 b) ∧ w'.cell? ⟨w.heap.size, 6, none⟩ = some (.int .i64 d) ∧ w'.cell? ⟨w.heap.size + 1, 0, none⟩ = some (.int .i64 v))
    (first | with_reducible exact cells8 (hA) (hT) | with_reducible exact cells8 (hA.drew) (hT.drew) | with_reducible exact cells8 (hA.alloc (.cells #[.int .i64 v] 2)) (hT.alloc (.cells #[.int .i64 v] 2)) | with_reducible exact cells8 ((hA.alloc (.cells #[.int .i64 v] 2)).drew) ((hT.alloc (.cells #[.int .i64 v] 2)).drew) | with_reducible exact cells8 (A1) (T1) | with_reducible exact cells8 (far7 A1 (by omega)) (far7 T1 (by omega)))
    (first
      | (go_at_call 21; refine (sums_any _ 1 [v] _ (by exact hRow) (by simp) (by simp)).mono ?_; rintro e w' ⟨rfl, rfl⟩; rw [HS.out])
      | (go_at_call 20; refine (change_bad n i h s p b d _ _ _ HC.out).mono ?_; rintro e w1 ⟨rfl, hb1⟩; have R1 := (hR.alloc (.cells #[.int .i64 v] 2)).drew.step hb1; have A1 := (hA.alloc (.cells #[.int .i64 v] 2)).drew.step hb1; have T1 := (hT.alloc (.cells #[.int .i64 v] 2)).drew.step hb1; have rc0 := R1.cell 0; have rf0 := R1.free 0; have rc1 := R1.cell 1; have rf1 := R1.free 1; have rc2 := R1.cell 2; have rf2 := R1.free 2; have rc3 := R1.cell 3; have rf3 := R1.free 3; have rc4 := R1.cell 4; have rf4 := R1.free 4; have rc5 := R1.cell 5; have rf5 := R1.free 5; have rc6 := R1.cell 6; have rf6 := R1.free 6))
  all_goals
    have B1 := below_step ((hB.alloc hB.size (.cells #[.int .i64 v] 2)).drew) hb1
    clear ac0 ac1 ac2 ac3 ac4 ac5 ac6 tc
    go_wp2_with fail
    have F := put7 R1 (t := 24) (v0 := .int .i64 0) (v1 := .int .i64 0) (v2 := .int .i64 0) (v3 := .bool false) (v4 := .int .i64 0) (v5 := .int .i64 0) (v6 := .int .i64 0)
    have q0 := F.cell 0
    have q1 := F.cell 1
    have q2 := F.cell 2
    have q3 := F.cell 3
    have q4 := F.cell 4
    have q5 := F.cell 5
    have q6 := F.cell 6
    simp at q0 q1 q2 q3 q4 q5 q6
    exact bodyPost_ret (v := .tuple #[.agg #[.int .i64 0, .int .i64 0, .int .i64 0, .bool false, .int .i64 0, .int .i64 0, .int .i64 0], .int .i64 1]) (by simp [results, Try.results9, go_sem, q0, q1, q2, q3, q4, q5, q6]) rfl ⟨rfl, below7 B1 (by omega)⟩

set_option maxRecDepth 100000 in
set_option maxHeartbeats 6400000 in
theorem settleOp_no (n i h : Int) (s : Bool) (p b d v : Int) (w : World) (hc : Acc.ok ⟨n, i, h, s, p, b, d⟩ = true) (hm : sumsB [v] = false) :
    Calls Try.prog 9 #[.agg #[.int .i64 n, .int .i64 i, .int .i64 h, .bool s, .int .i64 p, .int .i64 b, .int .i64 d], .int .i64 v] w fun e w' => e = .returned (resV (⟨n, i, h, s, p, b, d⟩, 1)) ∧ Below w.heap.size w w' := by
  have HS := Lib.hid hm
  have HC := Lib.hid hc
  clear hc hm
  have hmf : ∀ (fn : Fn) (first cap : Array Value) (w : World), (Instr.makeFunc fn first cap).run Try.prog w = .ok (.func fn first cap) w := fun _ _ _ _ => rfl
  go_enter Try.func9, Try.ntmps9
  go_wp2_with fail
  obtain ⟨W1, hW1⟩ : ∃ W1, W1 = (((w.alloc (.cells #[.int .i64 n, .int .i64 i, .int .i64 h, .bool s, .int .i64 p, .int .i64 b, .int .i64 d] 24)).alloc (.cells #[.int .i64 v] 2)).alloc (.cells #[.int .i64 0, .int .i64 0, .int .i64 0, .bool false, .int .i64 0, .int .i64 0, .int .i64 0] 24)) := ⟨_, rfl⟩
  rw [← hW1]
  obtain ⟨hA, hT, hR, hB⟩ := op_world w W1 n i h s p b d v hW1
  clear hW1
  have hRow : Row64 (W1.alloc (.cells #[.int .i64 v] 2)) (some ⟨W1.heap.size, 0, none⟩) [v] := fun _ => ⟨W1.heap.size, 0, rfl, by simp, fun k hk => by
    obtain rfl : k = 0 := by simpa using hk
    exact (At.new W1 2 #[.int .i64 v]).cell 0⟩
  have m0 := hA.lt
  have m1 := hT.lt
  have m2 := hR.lt
  have ac0 := hA.cell 0
  have ac1 := hA.cell 1
  have ac2 := hA.cell 2
  have ac3 := hA.cell 3
  have ac4 := hA.cell 4
  have ac5 := hA.cell 5
  have ac6 := hA.cell 6
  have tc := hT.cell 0
  go_region_held3 (fun w' => w'.cell? ⟨w.heap.size, 0, none⟩ = some (.int .i64 n) ∧ w'.cell? ⟨w.heap.size, 1, none⟩ = some (.int .i64 i) ∧ w'.cell? ⟨w.heap.size, 2, none⟩ = some (.int .i64 h) ∧ w'.cell? ⟨w.heap.size, 3, none⟩ = some (.bool s) ∧ w'.cell? ⟨w.heap.size, 4, none⟩ = some (.int .i64 p) ∧ w'.cell? ⟨w.heap.size, 5, none⟩ = some (.int .i64 b) ∧ w'.cell? ⟨w.heap.size, 6, none⟩ = some (.int .i64 d) ∧ w'.cell? ⟨w.heap.size + 1, 0, none⟩ = some (.int .i64 v))
    (first | with_reducible exact cells8 (hA) (hT) | with_reducible exact cells8 (hA.drew) (hT.drew) | with_reducible exact cells8 (hA.alloc (.cells #[.int .i64 v] 2)) (hT.alloc (.cells #[.int .i64 v] 2)) | with_reducible exact cells8 ((hA.alloc (.cells #[.int .i64 v] 2)).drew) ((hT.alloc (.cells #[.int .i64 v] 2)).drew) | with_reducible exact cells8 (A1) (T1) | with_reducible exact cells8 (far7 A1 (by omega)) (far7 T1 (by omega)))
    (first
      | (go_at_call 21; refine (sums_any _ 1 [v] _ (by exact hRow) (by simp) (by simp)).mono ?_; rintro e w' ⟨rfl, rfl⟩; rw [HS.out])
      | (go_at_call 20; refine (change_no n i h s p b d _ _ HC.out).mono ?_; rintro e w1 ⟨rfl, hb1⟩; have R1 := (hR.alloc (.cells #[.int .i64 v] 2)).drew.step hb1; have A1 := (hA.alloc (.cells #[.int .i64 v] 2)).drew.step hb1; have T1 := (hT.alloc (.cells #[.int .i64 v] 2)).drew.step hb1; have rc0 := R1.cell 0; have rf0 := R1.free 0; have rc1 := R1.cell 1; have rf1 := R1.free 1; have rc2 := R1.cell 2; have rf2 := R1.free 2; have rc3 := R1.cell 3; have rf3 := R1.free 3; have rc4 := R1.cell 4; have rf4 := R1.free 4; have rc5 := R1.cell 5; have rf5 := R1.free 5; have rc6 := R1.cell 6; have rf6 := R1.free 6))
  all_goals
    have B1 := below_step ((hB.alloc hB.size (.cells #[.int .i64 v] 2)).drew) hb1
    clear ac0 ac1 ac2 ac3 ac4 ac5 ac6 tc
    go_wp2_with fail
    have F := put7 R1 (t := 24) (v0 := .int .i64 n) (v1 := .int .i64 i) (v2 := .int .i64 h) (v3 := .bool s) (v4 := .int .i64 p) (v5 := .int .i64 b) (v6 := .int .i64 d)
    have q0 := F.cell 0
    have q1 := F.cell 1
    have q2 := F.cell 2
    have q3 := F.cell 3
    have q4 := F.cell 4
    have q5 := F.cell 5
    have q6 := F.cell 6
    simp at q0 q1 q2 q3 q4 q5 q6
    exact bodyPost_ret (v := .tuple #[.agg #[.int .i64 n, .int .i64 i, .int .i64 h, .bool s, .int .i64 p, .int .i64 b, .int .i64 d], .int .i64 1]) (by simp [results, Try.results9, go_sem, q0, q1, q2, q3, q4, q5, q6]) rfl ⟨rfl, below7 B1 (by omega)⟩

set_option maxRecDepth 100000 in
set_option maxHeartbeats 6400000 in
theorem settleOp_set (n i h : Int) (p b d v : Int) (w : World) (hc : Acc.ok ⟨n, i, h, true, p, b, d⟩ = true) (hm : sumsB [v] = true) :
    Calls Try.prog 9 #[.agg #[.int .i64 n, .int .i64 i, .int .i64 h, .bool true, .int .i64 p, .int .i64 b, .int .i64 d], .int .i64 v] w fun e w' => e = .returned (resV (⟨n, i, h, true, p, b, d⟩, 13)) ∧ Below w.heap.size w w' := by
  have HS := Lib.hid hm
  have HC := Lib.hid hc
  clear hc hm
  have hmf : ∀ (fn : Fn) (first cap : Array Value) (w : World), (Instr.makeFunc fn first cap).run Try.prog w = .ok (.func fn first cap) w := fun _ _ _ _ => rfl
  go_enter Try.func9, Try.ntmps9
  go_wp2_with fail
  obtain ⟨W1, hW1⟩ : ∃ W1, W1 = (((w.alloc (.cells #[.int .i64 n, .int .i64 i, .int .i64 h, .bool true, .int .i64 p, .int .i64 b, .int .i64 d] 24)).alloc (.cells #[.int .i64 v] 2)).alloc (.cells #[.int .i64 0, .int .i64 0, .int .i64 0, .bool false, .int .i64 0, .int .i64 0, .int .i64 0] 24)) := ⟨_, rfl⟩
  rw [← hW1]
  obtain ⟨hA, hT, hR, hB⟩ := op_world w W1 n i h true p b d v hW1
  clear hW1
  have hRow : Row64 (W1.alloc (.cells #[.int .i64 v] 2)) (some ⟨W1.heap.size, 0, none⟩) [v] := fun _ => ⟨W1.heap.size, 0, rfl, by simp, fun k hk => by
    obtain rfl : k = 0 := by simpa using hk
    exact (At.new W1 2 #[.int .i64 v]).cell 0⟩
  have m0 := hA.lt
  have m1 := hT.lt
  have m2 := hR.lt
  have ac0 := hA.cell 0
  have ac1 := hA.cell 1
  have ac2 := hA.cell 2
  have ac3 := hA.cell 3
  have ac4 := hA.cell 4
  have ac5 := hA.cell 5
  have ac6 := hA.cell 6
  have tc := hT.cell 0
  go_region_held3 (fun w' => w'.cell? ⟨w.heap.size, 0, none⟩ = some (.int .i64 n) ∧ w'.cell? ⟨w.heap.size, 1, none⟩ = some (.int .i64 i) ∧ w'.cell? ⟨w.heap.size, 2, none⟩ = some (.int .i64 h) ∧ w'.cell? ⟨w.heap.size, 3, none⟩ = some (.bool true) ∧ w'.cell? ⟨w.heap.size, 4, none⟩ = some (.int .i64 p) ∧ w'.cell? ⟨w.heap.size, 5, none⟩ = some (.int .i64 b) ∧ w'.cell? ⟨w.heap.size, 6, none⟩ = some (.int .i64 d) ∧ w'.cell? ⟨w.heap.size + 1, 0, none⟩ = some (.int .i64 v))
    (first | with_reducible exact cells8 (hA) (hT) | with_reducible exact cells8 (hA.drew) (hT.drew) | with_reducible exact cells8 (hA.alloc (.cells #[.int .i64 v] 2)) (hT.alloc (.cells #[.int .i64 v] 2)) | with_reducible exact cells8 ((hA.alloc (.cells #[.int .i64 v] 2)).drew) ((hT.alloc (.cells #[.int .i64 v] 2)).drew) | with_reducible exact cells8 (A1) (T1) | with_reducible exact cells8 (far7 A1 (by omega)) (far7 T1 (by omega)))
    (first
      | (go_at_call 21; refine (sums_any _ 1 [v] _ (by exact hRow) (by simp) (by simp)).mono ?_; rintro e w' ⟨rfl, rfl⟩; rw [HS.out])
      | (go_at_call 20; refine (change_set n i h p b d _ _ HC.out).mono ?_; rintro e w1 ⟨rfl, hb1⟩; have R1 := (hR.alloc (.cells #[.int .i64 v] 2)).drew.step hb1; have A1 := (hA.alloc (.cells #[.int .i64 v] 2)).drew.step hb1; have T1 := (hT.alloc (.cells #[.int .i64 v] 2)).drew.step hb1; have rc0 := R1.cell 0; have rf0 := R1.free 0; have rc1 := R1.cell 1; have rf1 := R1.free 1; have rc2 := R1.cell 2; have rf2 := R1.free 2; have rc3 := R1.cell 3; have rf3 := R1.free 3; have rc4 := R1.cell 4; have rf4 := R1.free 4; have rc5 := R1.cell 5; have rf5 := R1.free 5; have rc6 := R1.cell 6; have rf6 := R1.free 6))
  all_goals
    have B1 := below_step ((hB.alloc hB.size (.cells #[.int .i64 v] 2)).drew) hb1
    clear ac0 ac1 ac2 ac3 ac4 ac5 ac6 tc
    go_wp2_with fail
    have F := put7 R1 (t := 24) (v0 := .int .i64 n) (v1 := .int .i64 i) (v2 := .int .i64 h) (v3 := .bool true) (v4 := .int .i64 p) (v5 := .int .i64 b) (v6 := .int .i64 d)
    have q0 := F.cell 0
    have q1 := F.cell 1
    have q2 := F.cell 2
    have q3 := F.cell 3
    have q4 := F.cell 4
    have q5 := F.cell 5
    have q6 := F.cell 6
    simp at q0 q1 q2 q3 q4 q5 q6
    exact bodyPost_ret (v := .tuple #[.agg #[.int .i64 n, .int .i64 i, .int .i64 h, .bool true, .int .i64 p, .int .i64 b, .int .i64 d], .int .i64 13]) (by simp [results, Try.results9, go_sem, q0, q1, q2, q3, q4, q5, q6]) rfl ⟨rfl, below7 B1 (by omega)⟩

set_option maxRecDepth 100000 in
set_option maxHeartbeats 6400000 in
theorem settleOp_yes (n i h : Int) (p b d v : Int) (w : World) (hc : Acc.ok ⟨n, i, h, false, p, b, d⟩ = true) (hm : sumsB [v] = true) (m : Int) (hq : m = if v < i then v else i) :
    Calls Try.prog 9 #[.agg #[.int .i64 n, .int .i64 i, .int .i64 h, .bool false, .int .i64 p, .int .i64 b, .int .i64 d], .int .i64 v] w fun e w' => e = .returned (resV (⟨n, i, 0, true, m, i - m, v - m⟩, 0)) ∧ Below w.heap.size w w' := by
  have HS := Lib.hid hm
  have HC := Lib.hid hc
  have HQ := Lib.hid hq
  have Hv := (sums_one v).1 hm
  clear hc hm hq
  have hmf : ∀ (fn : Fn) (first cap : Array Value) (w : World), (Instr.makeFunc fn first cap).run Try.prog w = .ok (.func fn first cap) w := fun _ _ _ _ => rfl
  go_enter Try.func9, Try.ntmps9
  go_wp2_with fail
  obtain ⟨W1, hW1⟩ : ∃ W1, W1 = (((w.alloc (.cells #[.int .i64 n, .int .i64 i, .int .i64 h, .bool false, .int .i64 p, .int .i64 b, .int .i64 d] 24)).alloc (.cells #[.int .i64 v] 2)).alloc (.cells #[.int .i64 0, .int .i64 0, .int .i64 0, .bool false, .int .i64 0, .int .i64 0, .int .i64 0] 24)) := ⟨_, rfl⟩
  rw [← hW1]
  obtain ⟨hA, hT, hR, hB⟩ := op_world w W1 n i h false p b d v hW1
  clear hW1
  have hRow : Row64 (W1.alloc (.cells #[.int .i64 v] 2)) (some ⟨W1.heap.size, 0, none⟩) [v] := fun _ => ⟨W1.heap.size, 0, rfl, by simp, fun k hk => by
    obtain rfl : k = 0 := by simpa using hk
    exact (At.new W1 2 #[.int .i64 v]).cell 0⟩
  have m0 := hA.lt
  have m1 := hT.lt
  have m2 := hR.lt
  have ac0 := hA.cell 0
  have ac1 := hA.cell 1
  have ac2 := hA.cell 2
  have ac3 := hA.cell 3
  have ac4 := hA.cell 4
  have ac5 := hA.cell 5
  have ac6 := hA.cell 6
  have tc := hT.cell 0
  go_region_held3 (fun w' => w'.cell? ⟨w.heap.size, 0, none⟩ = some (.int .i64 n) ∧ w'.cell? ⟨w.heap.size, 1, none⟩ = some (.int .i64 i) ∧ w'.cell? ⟨w.heap.size, 2, none⟩ = some (.int .i64 h) ∧ w'.cell? ⟨w.heap.size, 3, none⟩ = some (.bool false) ∧ w'.cell? ⟨w.heap.size, 4, none⟩ = some (.int .i64 p) ∧ w'.cell? ⟨w.heap.size, 5, none⟩ = some (.int .i64 b) ∧ w'.cell? ⟨w.heap.size, 6, none⟩ = some (.int .i64 d) ∧ w'.cell? ⟨w.heap.size + 1, 0, none⟩ = some (.int .i64 v))
    (first | with_reducible exact cells8 (hA) (hT) | with_reducible exact cells8 (hA.drew) (hT.drew) | with_reducible exact cells8 (hA.alloc (.cells #[.int .i64 v] 2)) (hT.alloc (.cells #[.int .i64 v] 2)) | with_reducible exact cells8 ((hA.alloc (.cells #[.int .i64 v] 2)).drew) ((hT.alloc (.cells #[.int .i64 v] 2)).drew) | with_reducible exact cells8 (A1) (T1) | with_reducible exact cells8 (far7 A1 (by omega)) (far7 T1 (by omega)))
    (first
      | (go_at_call 21; refine (sums_any _ 1 [v] _ (by exact hRow) (by simp) (by simp)).mono ?_; rintro e w' ⟨rfl, rfl⟩; rw [HS.out])
      | (go_at_call 20; refine (change_settle n i h p b d v _ _ (by exact (hT.alloc (.cells #[.int .i64 v] 2)).drew) HC.out Hv.1 Hv.2 m HQ.out).mono ?_; rintro e w1 ⟨rfl, hb1⟩; have R1 := (hR.alloc (.cells #[.int .i64 v] 2)).drew.step hb1; have A1 := (hA.alloc (.cells #[.int .i64 v] 2)).drew.step hb1; have T1 := (hT.alloc (.cells #[.int .i64 v] 2)).drew.step hb1; have rc0 := R1.cell 0; have rf0 := R1.free 0; have rc1 := R1.cell 1; have rf1 := R1.free 1; have rc2 := R1.cell 2; have rf2 := R1.free 2; have rc3 := R1.cell 3; have rf3 := R1.free 3; have rc4 := R1.cell 4; have rf4 := R1.free 4; have rc5 := R1.cell 5; have rf5 := R1.free 5; have rc6 := R1.cell 6; have rf6 := R1.free 6))
  all_goals
    have B1 := below_step ((hB.alloc hB.size (.cells #[.int .i64 v] 2)).drew) hb1
    clear ac0 ac1 ac2 ac3 ac4 ac5 ac6 tc
    go_wp2_with fail
    have F := put7 R1 (t := 24) (v0 := .int .i64 n) (v1 := .int .i64 i) (v2 := .int .i64 0) (v3 := .bool true) (v4 := .int .i64 m) (v5 := .int .i64 (i - m)) (v6 := .int .i64 (v - m))
    have q0 := F.cell 0
    have q1 := F.cell 1
    have q2 := F.cell 2
    have q3 := F.cell 3
    have q4 := F.cell 4
    have q5 := F.cell 5
    have q6 := F.cell 6
    simp at q0 q1 q2 q3 q4 q5 q6
    exact bodyPost_ret (v := .tuple #[.agg #[.int .i64 n, .int .i64 i, .int .i64 0, .bool true, .int .i64 m, .int .i64 (i - m), .int .i64 (v - m)], .int .i64 0]) (by simp [results, Try.results9, go_sem, q0, q1, q2, q3, q4, q5, q6]) rfl ⟨rfl, below7 B1 (by omega)⟩

end Go.Proofs.Ytmbapehnagpmbaa
