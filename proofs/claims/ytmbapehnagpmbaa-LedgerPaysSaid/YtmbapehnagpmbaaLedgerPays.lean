/- 'vendue/venduelaw16.LedgerPays' answers true at every input, and leaves its arguments as they were: the given statement Rows.LedgerPaysSaid. No condition. -/
import Derived.Test.YtmbapehnagpmbaaRows
import Derived.Test.YtmbapehnagpmbaaMem
import Derived.WalkKit
import Derived.ProofKit
import Derived.OpenShut
import Derived.Test.YtmbapehnagpmbaaLedgerAwake
namespace Go.Proofs.Ytmbapehnagpmbaa.ledgerPays
open Go.ChangeShapes Go.WideShapes Go.ChangeAt Go.RowKit
open Go.ChangeMaps (open_string shut_string)
set_option linter.unusedVariables false

theorem mask50 (n : Int) : 0 ≤ bits BinOp.and IntKind.i64 n 1125899906842623 ∧ bits BinOp.and IntKind.i64 n 1125899906842623 ≤ 1125899906842623 := by
  show 0 ≤ IntKind.i64.wrap ((BitVec.ofInt 64 n &&& BitVec.ofInt 64 1125899906842623).toNat : Int) ∧ IntKind.i64.wrap ((BitVec.ofInt 64 n &&& BitVec.ofInt 64 1125899906842623).toNat : Int) ≤ 1125899906842623
  rw [BitVec.toNat_and]
  have h : (BitVec.ofInt 64 n).toNat &&& (BitVec.ofInt 64 1125899906842623).toNat ≤ 1125899906842623 := Nat.and_le_right
  generalize (BitVec.ofInt 64 n).toNat &&& (BitVec.ofInt 64 1125899906842623).toNat = x at *
  rw [IntKind.wrap_i64]
  omega
theorem pays (I h n : Int) (hI : 1 ≤ I ∧ I ≤ 1125899906842624) (hh : 0 ≤ h ∧ h ≤ I) (hn : 0 ≤ n ∧ n ≤ 1125899906842623) :
    (n ≤ I → settleR ⟨9, I, h, false, 0, 0, 0⟩ n = (⟨9, I, 0, true, n, I - n, 0⟩, 0)) ∧ (¬ n ≤ I → settleR ⟨9, I, h, false, 0, 0, 0⟩ n = (⟨9, I, 0, true, I, 0, n - I⟩, 0)) := by
  have hc : Acc.ok ⟨9, I, h, false, 0, 0, 0⟩ = true := decide_eq_true (by unfold Acc.Ok; simp; omega)
  have H : settleR ⟨9, I, h, false, 0, 0, 0⟩ n = (⟨9, I, 0, true, (if n < I then n else I), I - (if n < I then n else I), n - (if n < I then n else I)⟩, 0) := by unfold settleR; rw [if_pos hc, if_pos (by omega), if_neg (by simp)]
  rw [H]
  constructor
  · intro h1
    have e : (if n < I then n else I) = n := by split <;> omega
    rw [e, Int.sub_self]
  · intro h1
    rw [if_neg (by omega), Int.sub_self]

set_option maxRecDepth 100000 in
set_option maxHeartbeats 3200000 in
theorem walk (a0 a1 a2 : Int) (w : World) (w0 : (Lit.int .i64 a0).wf = true) (w1 : (Lit.int .i64 a1).wf = true) (w2 : (Lit.int .i64 a2).wf = true) :
    Calls Try.prog 3 #[.int .i64 a0, .int .i64 a1, .int .i64 a2] w fun e w' => e = .returned (.bool true) ∧ Below w.heap.size w w' := by
  clear w0 w1 w2
  have m0 := mask50 a0
  have m1 := mask50 a1
  have m2 := mask50 a2
  go_enter Try.func3, Try.ntmps3
  go_wp2_with fail
  refine (awake_any _).mono ?_; rintro e w1 ⟨rfl, hb1⟩
  go_wp2_with fail
  generalize bits BinOp.and IntKind.i64 a0 1125899906842623 = I0 at *
  generalize bits BinOp.and IntKind.i64 a1 1125899906842623 = n at *
  generalize bits BinOp.and IntKind.i64 a2 1125899906842623 = h0 at *
  obtain ⟨I, hI'⟩ : ∃ I, I = 1 + I0 := ⟨_, rfl⟩
  obtain ⟨H, hH'⟩ : ∃ H, H = h0 % (1 + I0 + 1) := ⟨_, rfl⟩
  have hH : 0 ≤ H ∧ H ≤ I := by
    have q1 : 0 ≤ h0 % (1 + I0 + 1) := Int.emod_nonneg _ (by omega)
    have q2 : h0 % (1 + I0 + 1) < 1 + I0 + 1 := Int.emod_lt_of_pos _ (by omega)
    omega
  rw [← hH', ← hI']
  have hI : 1 ≤ I ∧ I ≤ 1125899906842624 := by omega
  clear hH' hI' m0 m2
  by_cases h1 : n ≤ I
  · have E1 := Lib.hid ((pays I H n hI hH m1).1 h1)
    have E2 := Lib.hid ((pays I 0 n hI (by omega) m1).1 h1)
    refine (settleOp_any 9 I H false 0 0 0 n _).mono ?_; rintro e w2 ⟨rfl, hb2⟩
    rw [E1.out]
    unfold resV
    have B2 := below_step ((hb1.alloc hb1.size _).alloc (by have := hb1.size; simp; omega) _) hb2
    have Z2 := (At.new (w1.alloc (.cells #[.int .i64 9, .int .i64 I, .int .i64 H, .bool false, .int .i64 0, .int .i64 0, .int .i64 0] 24)) 24 #[.int .i64 9, .int .i64 I, .int .i64 0, .bool false, .int .i64 0, .int .i64 0, .int .i64 0]).step hb2
    simp only [World.size_alloc] at Z2
    have z0 := Z2.cell 0
    have z1 := Z2.cell 1
    have z2 := Z2.cell 2
    have z3 := Z2.cell 3
    have z4 := Z2.cell 4
    have z5 := Z2.cell 5
    have z6 := Z2.cell 6
    simp at z0 z1 z2 z3 z4 z5 z6
    have zl := Z2.lt
    go_wp2_with fail
    refine (settleOp_any 9 I 0 false 0 0 0 n _).mono ?_; rintro e w3 ⟨rfl, hb3⟩
    rw [E2.out]
    unfold resV
    have B3 := below_step (B2.alloc B2.size _) hb3
    have Y3 := (At.new w2 24 #[.int .i64 9, .int .i64 I, .int .i64 0, .bool true, .int .i64 n, .int .i64 (I - n), .int .i64 0]).step hb3
    clear z0 z1 z2 z3 z4 z5 z6 Z2 zl hb3 hb2
    have yl := Y3.lt
    have y0 := Y3.cell 0
    have y1 := Y3.cell 1
    have y2 := Y3.cell 2
    have y3 := Y3.cell 3
    have y4 := Y3.cell 4
    have y5 := Y3.cell 5
    have y6 := Y3.cell 6
    simp at y0 y1 y2 y3 y4 y5 y6
    go_wp2_with fail
    go_ret
    exact ⟨rfl, B3.alloc B3.size _⟩
  · have E1 := Lib.hid ((pays I H n hI hH m1).2 h1)
    have E2 := Lib.hid ((pays I 0 n hI (by omega) m1).2 h1)
    refine (settleOp_any 9 I H false 0 0 0 n _).mono ?_; rintro e w2 ⟨rfl, hb2⟩
    rw [E1.out]
    unfold resV
    have B2 := below_step ((hb1.alloc hb1.size _).alloc (by have := hb1.size; simp; omega) _) hb2
    have Z2 := (At.new (w1.alloc (.cells #[.int .i64 9, .int .i64 I, .int .i64 H, .bool false, .int .i64 0, .int .i64 0, .int .i64 0] 24)) 24 #[.int .i64 9, .int .i64 I, .int .i64 0, .bool false, .int .i64 0, .int .i64 0, .int .i64 0]).step hb2
    simp only [World.size_alloc] at Z2
    have z0 := Z2.cell 0
    have z1 := Z2.cell 1
    have z2 := Z2.cell 2
    have z3 := Z2.cell 3
    have z4 := Z2.cell 4
    have z5 := Z2.cell 5
    have z6 := Z2.cell 6
    simp at z0 z1 z2 z3 z4 z5 z6
    have zl := Z2.lt
    go_wp2_with fail
    refine (settleOp_any 9 I 0 false 0 0 0 n _).mono ?_; rintro e w3 ⟨rfl, hb3⟩
    rw [E2.out]
    unfold resV
    have B3 := below_step (B2.alloc B2.size _) hb3
    have Y3 := (At.new w2 24 #[.int .i64 9, .int .i64 I, .int .i64 0, .bool true, .int .i64 I, .int .i64 0, .int .i64 (n - I)]).step hb3
    clear z0 z1 z2 z3 z4 z5 z6 Z2 zl hb3 hb2
    have yl := Y3.lt
    have y0 := Y3.cell 0
    have y1 := Y3.cell 1
    have y2 := Y3.cell 2
    have y3 := Y3.cell 3
    have y4 := Y3.cell 4
    have y5 := Y3.cell 5
    have y6 := Y3.cell 6
    simp at y0 y1 y2 y3 y4 y5 y6
    go_wp2_with fail
    go_ret
    exact ⟨rfl, B3.alloc B3.size _⟩

theorem own : ownKnob Try.prog.godebug = none := by kernel_rfl
theorem laidOut : laidOutB Try.prog = true := by kernel_rfl

set_option maxRecDepth 100000 in
theorem lifted (os : Os) (started : os.Started) (H : Type) (enc : TypeId × Value → H) :
    ReturnsInHanded {} Try.checked os 3 .any (Rows.ledgerPaysSpec.pre6 enc Try.prog Try.f3 Rows.ledgerPaysRow.domain false) (Rows.ledgerPaysSpec.post enc Try.prog Try.f3 false true false false) := by
  refine returnsInHanded_of_change (C := Try.checked) own started (by kernel_rfl) Try.func3
    (ChangeSpec.witness6 (enc := enc) (C := Try.checked) false ⟨#[], #[.int .i64 0, .int .i64 0, .int .i64 0], []⟩ 8 (by kernel_rfl) (by kernel_rfl) (by kernel_rfl) (by kernel_rfl)) ?_
  intro W base args ds gs before hval0 hW hcnd hsz
  have hval : ∀ (j : Nat) t v, Try.f3.params[j]? = some t → args[j]? = some v → Value.okWide Try.prog W .any base t v := hval0
  have hW' := hW
  obtain ⟨p, q, hA0, hV, rfl, hfz, hnd⟩ := hW
  have hA : DataW.TrodAll enc Try.prog W 0 (fun _ => true) true Try.f3.params.toList args.toList ds p := hA0
  rw [Try.params3] at hA hval
  obtain ⟨v0, vs0, d0, ds0, p0, q0, hargs, rfl, rfl, h0, r0⟩ := trodAll_cons hA
  obtain ⟨v1, vs1, d1, ds1, p1, q1, rfl, rfl, rfl, h1, r1⟩ := trodAll_cons r0
  obtain ⟨v2, vs2, d2, ds2, p2, q2, rfl, rfl, rfl, h2, r2⟩ := trodAll_cons r1
  obtain ⟨rfl, rfl, rfl⟩ := trodAll_nil r2
  obtain rfl : args = #[v0, v1, v2] := by cases args; simp_all
  obtain ⟨rfl, rfl⟩ := trodVars_none hV
  obtain ⟨a0, rfl, rfl, rfl, w0⟩ := open_int Try.underlying2 (hval 0 2 v0 rfl rfl) h0
  obtain ⟨a1, rfl, rfl, rfl, w1⟩ := open_int Try.underlying2 (hval 1 2 v1 rfl rfl) h1
  obtain ⟨a2, rfl, rfl, rfl, w2⟩ := open_int Try.underlying2 (hval 2 2 v2 rfl rfl) h2
  refine (walk a0 a1 a2 W w0 w1 w2).mono fun e W' ⟨he, hg⟩ => ?_
  subst he
  exact ⟨_, rfl, post_law laidOut (by kernel_rfl) rfl Try.underlying4 hW' rfl rfl hg⟩

theorem over : Rows.ledgerPaysRow.holds Try.pinned (OpenSpec.ofChange Rows.ledgerPaysSpec) :=
  OpenClaim.holds_of_wide 3 Try.f3 rfl rfl rfl rfl rfl rfl rfl ⟨rfl, rfl, rfl, rfl, rfl⟩ rfl rfl rfl rfl rfl (by kernel_rfl) Try.func3 (by kernel_rfl)
    (of_decide_eq_true (by kernel_rfl)) (by unfold Func.isWrapper; first | (rw [if_pos (by decide +kernel)]; kernel_rfl) | (rw [if_neg (by decide +kernel)]; exact ⟨rfl, rfl⟩))
    (fun os started H enc _ => lifted os started H enc)

/-- THE STATEMENT. -/
theorem proved : Rows.LedgerPaysSaid := over
#print axioms proved
end Go.Proofs.Ytmbapehnagpmbaa.ledgerPays
