/- 'vendue/venduelaw15.DiceOrders' answers true at every input, and leaves its arguments as they were: the given statement Rows.DiceOrdersSaid. No condition. -/
import Derived.Test.YtnmknpdbjolbpaaRows
import Derived.Test.YtnmknpdbjolbpaaMem
import Derived.WalkKit
import Derived.ProofKit
import Derived.OpenShut
import Derived.Deep.RegionHeld3
import Derived.Test.YtnmknpdbjolbpaaDiceDown
namespace Go.Proofs.Ytnmknpdbjolbpaa.diceOrders
open Go.ChangeShapes Go.WideShapes Go.ChangeAt Go.RowKit
open Go.ChangeMaps (open_string shut_string)
set_option linter.unusedVariables false

set_option maxRecDepth 100000 in
set_option maxHeartbeats 1600000 in
theorem walk (a0 a1 : Int) (w : World) (w0 : (Lit.int .u64 a0).wf = true) (w1 : (Lit.int .i64 a1).wf = true) :
    Calls Try.prog 8 #[.int .u64 a0, .int .i64 a1] w fun e w' => e = .returned (.bool true) ∧ Below w.heap.size w w' := by
  obtain ⟨h0, h0'⟩ := bd_u64 _ w0
  obtain ⟨h1, h1'⟩ := bd_i64 _ w1
  clear w0 w1
  by_cases c1 : 200 < a1
  · by_cases c2 : a1 ≤ 1000
    · have k1 := c1
      have HL := Lib.hid (show (ordL a0 200).length ≤ 9223372036854775807 by have := ordL_len a0 200; omega)
      go_enter Try.func8, Try.ntmps8
      go_wp2_with fail
      refine (awake_any _).mono ?_; rintro e w' ⟨rfl, rfl⟩
      obtain ⟨W1, hW1⟩ : ∃ W1, W1 = w.alloc (.cells #[.int .u64 11400714819323198485] 31) := ⟨_, rfl⟩
      have hg : Below w.heap.size w W1 := by rw [hW1]; exact (Below.refl _ _).alloc (Nat.le_refl _) _
      rw [← hW1]
      clear hW1
      go_wp2_with fail
      refine (order_any a0 200 _ (by omega) (by omega)).mono ?_; rintro e w1 ⟨p1, d1, rfl, R1, B1⟩
      go_wp2_with fail
      refine (refOrder_any a0 200 _ (by omega) (by omega)).mono ?_; rintro e w2 ⟨p2, d2, rfl, R2, B2⟩
      go_wp2_with fail
      refine (same_any p1 p2 d1 d2 _ _ _ (row64_step R1 B2) R2 HL.out HL.out).mono ?_; rintro e w3 ⟨rfl, B3⟩
      rw [same_all _ _ rfl (fun _ _ => rfl)]
      go_wp2_with fail
      go_ret
      exact ⟨rfl, below_step (below_step (below_step hg B1) B2) B3⟩
    · have k1 := c1
      have HL := Lib.hid (show (ordL a0 a1).length ≤ 9223372036854775807 by have := ordL_len a0 a1; omega)
      go_enter Try.func8, Try.ntmps8
      go_wp2_with fail
      refine (awake_any _).mono ?_; rintro e w' ⟨rfl, rfl⟩
      obtain ⟨W1, hW1⟩ : ∃ W1, W1 = w.alloc (.cells #[.int .u64 11400714819323198485] 31) := ⟨_, rfl⟩
      have hg : Below w.heap.size w W1 := by rw [hW1]; exact (Below.refl _ _).alloc (Nat.le_refl _) _
      rw [← hW1]
      clear hW1
      go_wp2_with fail
      refine (order_any a0 a1 _ (by omega) (by omega)).mono ?_; rintro e w1 ⟨p1, d1, rfl, R1, B1⟩
      go_wp2_with fail
      refine (refOrder_any a0 a1 _ (by omega) (by omega)).mono ?_; rintro e w2 ⟨p2, d2, rfl, R2, B2⟩
      go_wp2_with fail
      refine (same_any p1 p2 d1 d2 _ _ _ (row64_step R1 B2) R2 HL.out HL.out).mono ?_; rintro e w3 ⟨rfl, B3⟩
      rw [same_all _ _ rfl (fun _ _ => rfl)]
      go_wp2_with fail
      go_ret
      exact ⟨rfl, below_step (below_step (below_step hg B1) B2) B3⟩
  · have k1 := c1
    have HL := Lib.hid (show (ordL a0 a1).length ≤ 9223372036854775807 by have := ordL_len a0 a1; omega)
    go_enter Try.func8, Try.ntmps8
    go_wp2_with fail
    refine (awake_any _).mono ?_; rintro e w' ⟨rfl, rfl⟩
    obtain ⟨W1, hW1⟩ : ∃ W1, W1 = w.alloc (.cells #[.int .u64 11400714819323198485] 31) := ⟨_, rfl⟩
    have hg : Below w.heap.size w W1 := by rw [hW1]; exact (Below.refl _ _).alloc (Nat.le_refl _) _
    rw [← hW1]
    clear hW1
    go_wp2_with fail
    refine (order_any a0 a1 _ (by omega) (by omega)).mono ?_; rintro e w1 ⟨p1, d1, rfl, R1, B1⟩
    go_wp2_with fail
    refine (refOrder_any a0 a1 _ (by omega) (by omega)).mono ?_; rintro e w2 ⟨p2, d2, rfl, R2, B2⟩
    go_wp2_with fail
    refine (same_any p1 p2 d1 d2 _ _ _ (row64_step R1 B2) R2 HL.out HL.out).mono ?_; rintro e w3 ⟨rfl, B3⟩
    rw [same_all _ _ rfl (fun _ _ => rfl)]
    go_wp2_with fail
    go_ret
    exact ⟨rfl, below_step (below_step (below_step hg B1) B2) B3⟩

theorem own : ownKnob Try.prog.godebug = none := by kernel_rfl
theorem laidOut : laidOutB Try.prog = true := by kernel_rfl

set_option maxRecDepth 100000 in
theorem lifted (os : Os) (started : os.Started) (H : Type) (enc : TypeId × Value → H) :
    ReturnsInHanded {} Try.checked os 8 .any (Rows.diceOrdersSpec.pre6 enc Try.prog Try.f8 Rows.diceOrdersRow.domain false) (Rows.diceOrdersSpec.post enc Try.prog Try.f8 false true false false) := by
  refine returnsInHanded_of_change (C := Try.checked) own started (by kernel_rfl) Try.func8
    (ChangeSpec.witness6 (enc := enc) (C := Try.checked) false ⟨#[], #[.int .u64 0, .int .i64 0], []⟩ 8 (by kernel_rfl) (by kernel_rfl) (by kernel_rfl) (by kernel_rfl)) ?_
  intro W base args ds gs before hval0 hW hcnd hsz
  have hval : ∀ (j : Nat) t v, Try.f8.params[j]? = some t → args[j]? = some v → Value.okWide Try.prog W .any base t v := hval0
  have hW' := hW
  obtain ⟨p, q, hA0, hV, rfl, hfz, hnd⟩ := hW
  have hA : DataW.TrodAll enc Try.prog W 0 (fun _ => true) true Try.f8.params.toList args.toList ds p := hA0
  rw [Try.params8] at hA hval
  obtain ⟨v0, vs0, d0, ds0, p0, q0, hargs, rfl, rfl, h0, r0⟩ := trodAll_cons hA
  obtain ⟨v1, vs1, d1, ds1, p1, q1, rfl, rfl, rfl, h1, r1⟩ := trodAll_cons r0
  obtain ⟨rfl, rfl, rfl⟩ := trodAll_nil r1
  obtain rfl : args = #[v0, v1] := by cases args; simp_all
  obtain ⟨rfl, rfl⟩ := trodVars_none hV
  obtain ⟨a0, rfl, rfl, rfl, w0⟩ := open_int Try.underlying22 (hval 0 22 v0 rfl rfl) h0
  obtain ⟨a1, rfl, rfl, rfl, w1⟩ := open_int Try.underlying3 (hval 1 3 v1 rfl rfl) h1
  refine (walk a0 a1 W w0 w1).mono fun e W' ⟨he, hg⟩ => ?_
  subst he
  exact ⟨_, rfl, post_law laidOut (by kernel_rfl) rfl Try.underlying4 hW' rfl rfl hg⟩

theorem over : Rows.diceOrdersRow.holds Try.pinned (OpenSpec.ofChange Rows.diceOrdersSpec) :=
  OpenClaim.holds_of_wide 8 Try.f8 rfl rfl rfl rfl rfl rfl rfl ⟨rfl, rfl, rfl, rfl, rfl⟩ rfl rfl rfl rfl rfl (by kernel_rfl) Try.func8 (by kernel_rfl)
    (of_decide_eq_true (by kernel_rfl)) (by unfold Func.isWrapper; first | (rw [if_pos (by decide +kernel)]; kernel_rfl) | (rw [if_neg (by decide +kernel)]; exact ⟨rfl, rfl⟩))
    (fun os started H enc _ => lifted os started H enc)

/-- THE STATEMENT. -/
theorem proved : Rows.DiceOrdersSaid := over
#print axioms proved
end Go.Proofs.Ytnmknpdbjolbpaa.diceOrders
