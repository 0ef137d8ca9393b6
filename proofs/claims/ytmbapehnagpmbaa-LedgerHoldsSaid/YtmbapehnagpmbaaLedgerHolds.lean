/- 'vendue/venduelaw16.LedgerHolds' answers true at every input, and leaves its arguments as they were: the given statement Rows.LedgerHoldsSaid. No condition. -/
import Derived.Test.YtmbapehnagpmbaaRows
import Derived.Test.YtmbapehnagpmbaaMem
import Derived.WalkKit
import Derived.ProofKit
import Derived.OpenShut
import Derived.Deep.RegionHeld3
import Derived.Test.YtmbapehnagpmbaaLedgerAwake
namespace Go.Proofs.Ytmbapehnagpmbaa.ledgerHolds
open Go.ChangeShapes Go.WideShapes Go.ChangeAt Go.RowKit
open Go.ChangeMaps (open_string shut_string)
set_option linter.unusedVariables false

theorem mask50 (n : Int) : 0 ≤ bits BinOp.and IntKind.i64 n 1125899906842623 ∧ bits BinOp.and IntKind.i64 n 1125899906842623 ≤ 1125899906842623 := by
  show 0 ≤ IntKind.i64.wrap ((BitVec.ofInt 64 n &&& BitVec.ofInt 64 1125899906842623).toNat : Int) ∧ IntKind.i64.wrap ((BitVec.ofInt 64 n &&& BitVec.ofInt 64 1125899906842623).toNat : Int) ≤ 1125899906842623
  rw [BitVec.toNat_and]
  have h : (BitVec.ofInt 64 n).toNat &&& (BitVec.ofInt 64 1125899906842623).toNat ≤ 1125899906842623 := Nat.and_le_right
  generalize (BitVec.ofInt 64 n).toNat &&& (BitVec.ofInt 64 1125899906842623).toNat = x at *
  rw [IntKind.wrap_i64]
  omega
theorem cells21 {w : World} {g g' g'' : Nat} {t : TypeId} {v0 v1 v2 v3 v4 v5 v6 u0 u1 u2 u3 u4 u5 u6 x0 x1 x2 x3 x4 x5 x6 : Value} (h : At w g t #[v0, v1, v2, v3, v4, v5, v6]) (h' : At w g' t #[u0, u1, u2, u3, u4, u5, u6]) (h'' : At w g'' t #[x0, x1, x2, x3, x4, x5, x6]) :
    w.cell? ⟨g, 0, none⟩ = some v0 ∧ w.cell? ⟨g, 1, none⟩ = some v1 ∧ w.cell? ⟨g, 2, none⟩ = some v2 ∧ w.cell? ⟨g, 3, none⟩ = some v3 ∧ w.cell? ⟨g, 4, none⟩ = some v4 ∧ w.cell? ⟨g, 5, none⟩ = some v5 ∧ w.cell? ⟨g, 6, none⟩ = some v6 ∧
    w.cell? ⟨g', 0, none⟩ = some u0 ∧ w.cell? ⟨g', 1, none⟩ = some u1 ∧ w.cell? ⟨g', 2, none⟩ = some u2 ∧ w.cell? ⟨g', 3, none⟩ = some u3 ∧ w.cell? ⟨g', 4, none⟩ = some u4 ∧ w.cell? ⟨g', 5, none⟩ = some u5 ∧ w.cell? ⟨g', 6, none⟩ = some u6 ∧
    w.cell? ⟨g'', 0, none⟩ = some x0 ∧ w.cell? ⟨g'', 1, none⟩ = some x1 ∧ w.cell? ⟨g'', 2, none⟩ = some x2 ∧ w.cell? ⟨g'', 3, none⟩ = some x3 ∧ w.cell? ⟨g'', 4, none⟩ = some x4 ∧ w.cell? ⟨g'', 5, none⟩ = some x5 ∧ w.cell? ⟨g'', 6, none⟩ = some x6 :=
  ⟨h.cell 0, h.cell 1, h.cell 2, h.cell 3, h.cell 4, h.cell 5, h.cell 6, h'.cell 0, h'.cell 1, h'.cell 2, h'.cell 3, h'.cell 4, h'.cell 5, h'.cell 6, h''.cell 0, h''.cell 1, h''.cell 2, h''.cell 3, h''.cell 4, h''.cell 5, h''.cell 6⟩
theorem hput (I : Int) (hI : 1 ≤ I ∧ I ≤ 1125899906842624) : putR ⟨2, 0, 0, false, 0, 0, 0⟩ I = (⟨2, I, 0, false, 0, 0, 0⟩, 0) := by
  have hc : Acc.ok ⟨2, 0, 0, false, 0, 0, 0⟩ = true := decide_eq_true (by unfold Acc.Ok; simp)
  unfold putR
  rw [if_pos hc, if_neg (by omega), if_neg (by simp), if_neg (by simp; omega)]
  simp
theorem acc2 (I h : Int) (hI : 1 ≤ I ∧ I ≤ 1125899906842624) (hh : 0 ≤ h ∧ h ≤ I) : Acc.ok ⟨2, I, h, false, 0, 0, 0⟩ = true := decide_eq_true (by unfold Acc.Ok; simp; omega)
theorem hhold (I n : Int) (hI : 1 ≤ I ∧ I ≤ 1125899906842624) :
    (n < 0 → holdR ⟨2, I, 0, false, 0, 0, 0⟩ n = (⟨2, I, 0, false, 0, 0, 0⟩, 1)) ∧ (I < n → holdR ⟨2, I, 0, false, 0, 0, 0⟩ n = (⟨2, I, 0, false, 0, 0, 0⟩, 19)) ∧ (0 ≤ n → n ≤ I → holdR ⟨2, I, 0, false, 0, 0, 0⟩ n = (⟨2, I, n, false, 0, 0, 0⟩, 0)) := by
  have hc := acc2 I 0 hI (by omega)
  refine ⟨fun h => ?_, fun h => ?_, fun h h' => ?_⟩
  · unfold holdR
    rw [if_pos hc, if_pos h]
  · unfold holdR
    rw [if_pos hc, if_neg (by omega), if_neg (by simp), if_pos (by simp; omega)]
  · unfold holdR
    rw [if_pos hc, if_neg (by omega), if_neg (by simp), if_neg (by simp; omega)]
    simp
theorem hlet (I h n : Int) (hI : 1 ≤ I ∧ I ≤ 1125899906842624) (hh : 0 ≤ h ∧ h ≤ I) (hn : 0 ≤ n) :
    (h < n → letR ⟨2, I, h, false, 0, 0, 0⟩ n = (⟨2, I, h, false, 0, 0, 0⟩, 19)) ∧ (n ≤ h → letR ⟨2, I, h, false, 0, 0, 0⟩ n = (⟨2, I, h - n, false, 0, 0, 0⟩, 0)) := by
  have hc := acc2 I h hI hh
  refine ⟨fun h1 => ?_, fun h1 => ?_⟩
  · unfold letR
    rw [if_pos hc, if_neg (by omega), if_neg (by simp), if_pos h1]
  · unfold letR
    rw [if_pos hc, if_neg (by omega), if_neg (by simp), if_neg (by simp; omega)]

set_option maxRecDepth 100000 in
set_option maxHeartbeats 6400000 in
theorem walk (a0 a1 : Int) (w : World) (w0 : (Lit.int .i64 a0).wf = true) (w1 : (Lit.int .i64 a1).wf = true) :
    Calls Try.prog 4 #[.int .i64 a0, .int .i64 a1] w fun e w' => e = .returned (.bool true) ∧ Below w.heap.size w w' := by
  obtain ⟨n0, n1⟩ := bd_i64 _ w1
  clear w0 w1
  have m0 := mask50 a0
  go_enter Try.func4, Try.ntmps4
  go_wp2_with fail
  refine (awake_any _).mono ?_; rintro e w1 ⟨rfl, hb1⟩
  go_wp2_with fail
  generalize bits BinOp.and IntKind.i64 a0 1125899906842623 = I0 at *
  obtain ⟨I, hI'⟩ : ∃ I, I = 1 + I0 := ⟨_, rfl⟩
  rw [← hI']
  have hI : 1 ≤ I ∧ I ≤ 1125899906842624 := by omega
  clear hI' m0
  have P1 := Lib.hid (hput I hI)
  refine (putOp_any 2 0 0 false 0 0 0 I _).mono ?_; rintro e w2 ⟨rfl, hb2⟩
  rw [P1.out]
  unfold resV
  have B2 := below_step hb1 hb2
  clear hb1 hb2
  go_wp2_with fail
  have hH := hhold I a1 hI
  obtain ⟨n, hn⟩ : ∃ n, n = a1 := ⟨_, rfl⟩
  rw [← hn] at hH n0 n1 ⊢
  clear hn
  by_cases c1 : n < 0
  · have H1 := Lib.hid (hH.1 c1)
    clear hH
    refine (holdOp_any 2 I 0 false 0 0 0 n _).mono ?_; rintro e w3 ⟨rfl, hb3⟩
    rw [H1.out]
    unfold resV
    have A3 := (At.new w2 24 #[.int .i64 2, .int .i64 I, .int .i64 0, .bool false, .int .i64 0, .int .i64 0, .int .i64 0]).step hb3
    have B3 := below_step (B2.alloc B2.size _) hb3
    have al := A3.lt
    clear hb3 B2
    have a0 := A3.cell 0
    have a1 := A3.cell 1
    have a2 := A3.cell 2
    have a3 := A3.cell 3
    have a4 := A3.cell 4
    have a5 := A3.cell 5
    have a6 := A3.cell 6
    simp at a0 a1 a2 a3 a4 a5 a6
    go_wp2_with fail
    go_ret
    exact ⟨rfl, B3.alloc B3.size _⟩
  · by_cases c2 : I < n
    · have H1 := Lib.hid (hH.2.1 c2)
      clear hH
      refine (holdOp_any 2 I 0 false 0 0 0 n _).mono ?_; rintro e w3 ⟨rfl, hb3⟩
      rw [H1.out]
      unfold resV
      have A3 := (At.new w2 24 #[.int .i64 2, .int .i64 I, .int .i64 0, .bool false, .int .i64 0, .int .i64 0, .int .i64 0]).step hb3
      have B3 := below_step (B2.alloc B2.size _) hb3
      have al := A3.lt
      clear hb3 B2
      have a0 := A3.cell 0
      have a1 := A3.cell 1
      have a2 := A3.cell 2
      have a3 := A3.cell 3
      have a4 := A3.cell 4
      have a5 := A3.cell 5
      have a6 := A3.cell 6
      simp at a0 a1 a2 a3 a4 a5 a6
      have d1 : decide (n ≤ I) = false := decide_eq_false (by omega)
      go_wp2_with fail
      go_ret
      exact ⟨rfl, B3.alloc B3.size _⟩
    · have H1 := Lib.hid (hH.2.2 (by omega) (by omega))
      clear hH
      refine (holdOp_any 2 I 0 false 0 0 0 n _).mono ?_; rintro e w3 ⟨rfl, hb3⟩
      rw [H1.out]
      unfold resV
      have A3 := (At.new w2 24 #[.int .i64 2, .int .i64 I, .int .i64 0, .bool false, .int .i64 0, .int .i64 0, .int .i64 0]).step hb3
      have B3 := below_step (B2.alloc B2.size _) hb3
      have al := A3.lt
      clear hb3 B2
      have a0 := A3.cell 0
      have a1 := A3.cell 1
      have a2 := A3.cell 2
      have a3 := A3.cell 3
      have a4 := A3.cell 4
      have a5 := A3.cell 5
      have a6 := A3.cell 6
      simp at a0 a1 a2 a3 a4 a5 a6
      have d1 : n ≤ I := by omega
      have d2 : 0 ≤ n := by omega
      go_wp2_with fail
      have L1 := Lib.hid ((hlet I n n hI ⟨by omega, by omega⟩ (by omega)).2 (by omega))
      refine (letOp_any 2 I n false 0 0 0 n _).mono ?_; rintro e w4 ⟨rfl, hb4⟩
      rw [L1.out, Int.sub_self]
      unfold resV
      have A4 := (A3.alloc (.cells #[.int .i64 2, .int .i64 I, .int .i64 n, .bool false, .int .i64 0, .int .i64 0, .int .i64 0] 24)).step hb4
      have C4 := (At.new w3 24 #[.int .i64 2, .int .i64 I, .int .i64 n, .bool false, .int .i64 0, .int .i64 0, .int .i64 0]).step hb4
      have B4 := below_step (B3.alloc B3.size _) hb4
      clear hb4 A3 B3 al a0 a1 a2 a3 a4 a5 a6
      have al := A4.lt
      have cl := C4.lt
      have a0 := A4.cell 0
      have a1 := A4.cell 1
      have a2 := A4.cell 2
      have a3 := A4.cell 3
      have a4 := A4.cell 4
      have a5 := A4.cell 5
      have a6 := A4.cell 6
      have c0 := C4.cell 0
      have k1 := C4.cell 1
      have k2 := C4.cell 2
      have c3 := C4.cell 3
      have c4 := C4.cell 4
      have c5 := C4.cell 5
      have c6 := C4.cell 6
      simp at a0 a1 a2 a3 a4 a5 a6
      go_wp2_with fail
      by_cases c3' : n = 0
      · have L2 := Lib.hid ((hlet I 0 n hI ⟨by omega, by omega⟩ (by omega)).2 (by omega))
        refine (letOp_any 2 I 0 false 0 0 0 n _).mono ?_; rintro e w5 ⟨rfl, hb5⟩
        rw [L2.out, show (0 : Int) - n = 0 from by omega]
        unfold resV
        have A5 := (A4.alloc (.cells #[.int .i64 2, .int .i64 I, .int .i64 0, .bool false, .int .i64 0, .int .i64 0, .int .i64 0] 24)).step hb5
        have C5 := (C4.alloc (.cells #[.int .i64 2, .int .i64 I, .int .i64 0, .bool false, .int .i64 0, .int .i64 0, .int .i64 0] 24)).step hb5
        have D5 := (At.new w4 24 #[.int .i64 2, .int .i64 I, .int .i64 0, .bool false, .int .i64 0, .int .i64 0, .int .i64 0]).step hb5
        have B5 := below_step (B4.alloc B4.size _) hb5
        clear hb5 A4 B4 C4
        have al := A5.lt
        have cl := C5.lt
        have dl := D5.lt
        have FV := Lib.hid (show freeV 2 I n false 0 0 0 = I - n by unfold freeV; rw [if_pos ⟨acc2 I n hI ⟨by omega, by omega⟩, rfl⟩])
        have e1 : (n == 0) = true := by rw [c3']; rfl
        clear c3'
        go_wp2_with fail
        obtain ⟨W6, hW6⟩ : ∃ W6, W6 = w5.alloc (.cells #[.int .i64 2, .int .i64 I, .int .i64 0, .bool false, .int .i64 0, .int .i64 0, .int .i64 0] 24) := ⟨_, rfl⟩
        rw [← hW6]
        have A6 : At W6 w2.heap.size 24 #[.int .i64 2, .int .i64 I, .int .i64 0, .bool false, .int .i64 0, .int .i64 0, .int .i64 0] := by rw [hW6]; exact A5.alloc _
        have C6 : At W6 w3.heap.size 24 #[.int .i64 2, .int .i64 I, .int .i64 n, .bool false, .int .i64 0, .int .i64 0, .int .i64 0] := by rw [hW6]; exact C5.alloc _
        have D6 : At W6 w4.heap.size 24 #[.int .i64 2, .int .i64 I, .int .i64 0, .bool false, .int .i64 0, .int .i64 0, .int .i64 0] := by rw [hW6]; exact D5.alloc _
        have B6 : Below w.heap.size w W6 := by rw [hW6]; exact B5.alloc B5.size _
        clear hW6 A5 C5 D5 B5
        have w9 : IntKind.i64.wrap (I - n) = I - n := IntWalk.i64_in _ ⟨by omega, by omega⟩
        go_region_held3 (fun w' => w'.cell? ⟨w2.heap.size, 0, none⟩ = some (.int .i64 2) ∧ w'.cell? ⟨w2.heap.size, 1, none⟩ = some (.int .i64 I) ∧ w'.cell? ⟨w2.heap.size, 2, none⟩ = some (.int .i64 0) ∧ w'.cell? ⟨w2.heap.size, 3, none⟩ = some (.bool false) ∧ w'.cell? ⟨w2.heap.size, 4, none⟩ = some (.int .i64 0) ∧ w'.cell? ⟨w2.heap.size, 5, none⟩ = some (.int .i64 0) ∧ w'.cell? ⟨w2.heap.size, 6, none⟩ = some (.int .i64 0) ∧ w'.cell? ⟨w3.heap.size, 0, none⟩ = some (.int .i64 2) ∧ w'.cell? ⟨w3.heap.size, 1, none⟩ = some (.int .i64 I) ∧ w'.cell? ⟨w3.heap.size, 2, none⟩ = some (.int .i64 n) ∧ w'.cell? ⟨w3.heap.size, 3, none⟩ = some (.bool false) ∧ w'.cell? ⟨w3.heap.size, 4, none⟩ = some (.int .i64 0) ∧ w'.cell? ⟨w3.heap.size, 5, none⟩ = some (.int .i64 0) ∧ w'.cell? ⟨w3.heap.size, 6, none⟩ = some (.int .i64 0) ∧ w'.cell? ⟨w4.heap.size, 0, none⟩ = some (.int .i64 2) ∧ w'.cell? ⟨w4.heap.size, 1, none⟩ = some (.int .i64 I) ∧ w'.cell? ⟨w4.heap.size, 2, none⟩ = some (.int .i64 0) ∧ w'.cell? ⟨w4.heap.size, 3, none⟩ = some (.bool false) ∧ w'.cell? ⟨w4.heap.size, 4, none⟩ = some (.int .i64 0) ∧ w'.cell? ⟨w4.heap.size, 5, none⟩ = some (.int .i64 0) ∧ w'.cell? ⟨w4.heap.size, 6, none⟩ = some (.int .i64 0))
          (first | with_reducible exact cells21 A6 C6 D6 | with_reducible exact cells21 A6.drew C6.drew D6.drew | with_reducible exact cells21 A7 C7 D7)
          ((go_at_call 13; refine (free_any 2 I n false 0 0 0 _).mono ?_; rintro e w7 ⟨rfl, hb7⟩; rw [FV.out]; have A7 := A6.drew.step hb7; have C7 := C6.drew.step hb7; have D7 := D6.drew.step hb7))
        go_wp2_with fail
        go_ret
        exact ⟨rfl, below_step B6.drew hb7⟩
      · have L2 := Lib.hid ((hlet I 0 n hI ⟨by omega, by omega⟩ (by omega)).1 (by omega))
        refine (letOp_any 2 I 0 false 0 0 0 n _).mono ?_; rintro e w5 ⟨rfl, hb5⟩
        rw [L2.out]
        unfold resV
        have A5 := (A4.alloc (.cells #[.int .i64 2, .int .i64 I, .int .i64 0, .bool false, .int .i64 0, .int .i64 0, .int .i64 0] 24)).step hb5
        have C5 := (C4.alloc (.cells #[.int .i64 2, .int .i64 I, .int .i64 0, .bool false, .int .i64 0, .int .i64 0, .int .i64 0] 24)).step hb5
        have D5 := (At.new w4 24 #[.int .i64 2, .int .i64 I, .int .i64 0, .bool false, .int .i64 0, .int .i64 0, .int .i64 0]).step hb5
        have B5 := below_step (B4.alloc B4.size _) hb5
        clear hb5 A4 B4 C4
        have al := A5.lt
        have cl := C5.lt
        have dl := D5.lt
        have FV := Lib.hid (show freeV 2 I n false 0 0 0 = I - n by unfold freeV; rw [if_pos ⟨acc2 I n hI ⟨by omega, by omega⟩, rfl⟩])
        have e1 : (n == 0) = false := beq_eq_false_iff_ne.2 c3'
        clear c3'
        go_wp2_with fail
        obtain ⟨W6, hW6⟩ : ∃ W6, W6 = w5.alloc (.cells #[.int .i64 2, .int .i64 I, .int .i64 0, .bool false, .int .i64 0, .int .i64 0, .int .i64 0] 24) := ⟨_, rfl⟩
        rw [← hW6]
        have A6 : At W6 w2.heap.size 24 #[.int .i64 2, .int .i64 I, .int .i64 0, .bool false, .int .i64 0, .int .i64 0, .int .i64 0] := by rw [hW6]; exact A5.alloc _
        have C6 : At W6 w3.heap.size 24 #[.int .i64 2, .int .i64 I, .int .i64 n, .bool false, .int .i64 0, .int .i64 0, .int .i64 0] := by rw [hW6]; exact C5.alloc _
        have D6 : At W6 w4.heap.size 24 #[.int .i64 2, .int .i64 I, .int .i64 0, .bool false, .int .i64 0, .int .i64 0, .int .i64 0] := by rw [hW6]; exact D5.alloc _
        have B6 : Below w.heap.size w W6 := by rw [hW6]; exact B5.alloc B5.size _
        clear hW6 A5 C5 D5 B5
        have w9 : IntKind.i64.wrap (I - n) = I - n := IntWalk.i64_in _ ⟨by omega, by omega⟩
        go_region_held3 (fun w' => w'.cell? ⟨w2.heap.size, 0, none⟩ = some (.int .i64 2) ∧ w'.cell? ⟨w2.heap.size, 1, none⟩ = some (.int .i64 I) ∧ w'.cell? ⟨w2.heap.size, 2, none⟩ = some (.int .i64 0) ∧ w'.cell? ⟨w2.heap.size, 3, none⟩ = some (.bool false) ∧ w'.cell? ⟨w2.heap.size, 4, none⟩ = some (.int .i64 0) ∧ w'.cell? ⟨w2.heap.size, 5, none⟩ = some (.int .i64 0) ∧ w'.cell? ⟨w2.heap.size, 6, none⟩ = some (.int .i64 0) ∧ w'.cell? ⟨w3.heap.size, 0, none⟩ = some (.int .i64 2) ∧ w'.cell? ⟨w3.heap.size, 1, none⟩ = some (.int .i64 I) ∧ w'.cell? ⟨w3.heap.size, 2, none⟩ = some (.int .i64 n) ∧ w'.cell? ⟨w3.heap.size, 3, none⟩ = some (.bool false) ∧ w'.cell? ⟨w3.heap.size, 4, none⟩ = some (.int .i64 0) ∧ w'.cell? ⟨w3.heap.size, 5, none⟩ = some (.int .i64 0) ∧ w'.cell? ⟨w3.heap.size, 6, none⟩ = some (.int .i64 0) ∧ w'.cell? ⟨w4.heap.size, 0, none⟩ = some (.int .i64 2) ∧ w'.cell? ⟨w4.heap.size, 1, none⟩ = some (.int .i64 I) ∧ w'.cell? ⟨w4.heap.size, 2, none⟩ = some (.int .i64 0) ∧ w'.cell? ⟨w4.heap.size, 3, none⟩ = some (.bool false) ∧ w'.cell? ⟨w4.heap.size, 4, none⟩ = some (.int .i64 0) ∧ w'.cell? ⟨w4.heap.size, 5, none⟩ = some (.int .i64 0) ∧ w'.cell? ⟨w4.heap.size, 6, none⟩ = some (.int .i64 0))
          (first | with_reducible exact cells21 A6 C6 D6 | with_reducible exact cells21 A6.drew C6.drew D6.drew | with_reducible exact cells21 A7 C7 D7)
          ((go_at_call 13; refine (free_any 2 I n false 0 0 0 _).mono ?_; rintro e w7 ⟨rfl, hb7⟩; rw [FV.out]; have A7 := A6.drew.step hb7; have C7 := C6.drew.step hb7; have D7 := D6.drew.step hb7))
        go_wp2_with fail
        go_ret
        exact ⟨rfl, below_step B6.drew hb7⟩

theorem own : ownKnob Try.prog.godebug = none := by kernel_rfl
theorem laidOut : laidOutB Try.prog = true := by kernel_rfl

set_option maxRecDepth 100000 in
theorem lifted (os : Os) (started : os.Started) (H : Type) (enc : TypeId × Value → H) :
    ReturnsInHanded {} Try.checked os 4 .any (Rows.ledgerHoldsSpec.pre6 enc Try.prog Try.f4 Rows.ledgerHoldsRow.domain false) (Rows.ledgerHoldsSpec.post enc Try.prog Try.f4 false true false false) := by
  refine returnsInHanded_of_change (C := Try.checked) own started (by kernel_rfl) Try.func4
    (ChangeSpec.witness6 (enc := enc) (C := Try.checked) false ⟨#[], #[.int .i64 0, .int .i64 0], []⟩ 8 (by kernel_rfl) (by kernel_rfl) (by kernel_rfl) (by kernel_rfl)) ?_
  intro W base args ds gs before hval0 hW hcnd hsz
  have hval : ∀ (j : Nat) t v, Try.f4.params[j]? = some t → args[j]? = some v → Value.okWide Try.prog W .any base t v := hval0
  have hW' := hW
  obtain ⟨p, q, hA0, hV, rfl, hfz, hnd⟩ := hW
  have hA : DataW.TrodAll enc Try.prog W 0 (fun _ => true) true Try.f4.params.toList args.toList ds p := hA0
  rw [Try.params4] at hA hval
  obtain ⟨v0, vs0, d0, ds0, p0, q0, hargs, rfl, rfl, h0, r0⟩ := trodAll_cons hA
  obtain ⟨v1, vs1, d1, ds1, p1, q1, rfl, rfl, rfl, h1, r1⟩ := trodAll_cons r0
  obtain ⟨rfl, rfl, rfl⟩ := trodAll_nil r1
  obtain rfl : args = #[v0, v1] := by cases args; simp_all
  obtain ⟨rfl, rfl⟩ := trodVars_none hV
  obtain ⟨a0, rfl, rfl, rfl, w0⟩ := open_int Try.underlying2 (hval 0 2 v0 rfl rfl) h0
  obtain ⟨a1, rfl, rfl, rfl, w1⟩ := open_int Try.underlying2 (hval 1 2 v1 rfl rfl) h1
  refine (walk a0 a1 W w0 w1).mono fun e W' ⟨he, hg⟩ => ?_
  subst he
  exact ⟨_, rfl, post_law laidOut (by kernel_rfl) rfl Try.underlying4 hW' rfl rfl hg⟩

theorem over : Rows.ledgerHoldsRow.holds Try.pinned (OpenSpec.ofChange Rows.ledgerHoldsSpec) :=
  OpenClaim.holds_of_wide 4 Try.f4 rfl rfl rfl rfl rfl rfl rfl ⟨rfl, rfl, rfl, rfl, rfl⟩ rfl rfl rfl rfl rfl (by kernel_rfl) Try.func4 (by kernel_rfl)
    (of_decide_eq_true (by kernel_rfl)) (by unfold Func.isWrapper; first | (rw [if_pos (by decide +kernel)]; kernel_rfl) | (rw [if_neg (by decide +kernel)]; exact ⟨rfl, rfl⟩))
    (fun os started H enc _ => lifted os started H enc)

/-- THE STATEMENT. -/
theorem proved : Rows.LedgerHoldsSaid := over
#print axioms proved
end Go.Proofs.Ytmbapehnagpmbaa.ledgerHolds
