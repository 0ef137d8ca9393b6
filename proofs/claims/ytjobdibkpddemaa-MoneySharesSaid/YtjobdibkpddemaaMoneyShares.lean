/- 'vendue/venduelaw01.MoneyShares' answers true at every input, and leaves its arguments as they were: the given statement Rows.MoneySharesSaid. No condition. -/
import Derived.Test.YtjobdibkpddemaaRows
import Derived.Test.YtjobdibkpddemaaMem
import Derived.WalkKit
import Derived.ProofKit
import Derived.OpenShut
import Derived.Test.YtjobdibkpddemaaMoneyUse
namespace Go.Proofs.Ytjobdibkpddemaa.moneyShares
open Go.ChangeShapes Go.WideShapes Go.ChangeAt Go.RowKit
open Go.ChangeMaps (open_string shut_string)
set_option linter.unusedVariables false

theorem shares (a b : Int) (a0 : 0 ≤ a) (a1 : a ≤ 1099511627775) (b0 : 0 ≤ b) (b1 : b ≤ 10000) :
    ∃ x y : Int, (shareV a b = x ∧ shareE a b = 0) ∧ (shareV a (10000 - b) = y ∧ shareE a (10000 - b) = 0) ∧ (shareV a 10000 = a ∧ shareE a 10000 = 0) ∧ 0 ≤ x ∧ x ≤ a ∧ 0 ≤ y ∧ y ≤ a ∧ x * 10000 ≤ a * b ∧ a * b < x * 10000 + 10000 ∧ 0 ≤ a - x - y ∧ a - x - y ≤ 1 ∧ 0 ≤ a * b ∧ a * b ≤ 10995116277750000 := by
  obtain ⟨h1, h2, h3, h4⟩ := share_in a b a0 b0 b1 (by omega)
  obtain ⟨g1, g2, g3, g4⟩ := share_in a (10000 - b) a0 (by omega) (by omega) (by omega)
  obtain ⟨k1, k2, k3, k4⟩ := share_in a 10000 a0 (by omega) (by omega) (by omega)
  have e : a * (10000 - b) = a * 10000 - a * b := Int.mul_sub _ _ _
  have p0 : 0 ≤ a * b := Int.mul_nonneg a0 b0
  have p1 : a * b ≤ a * 10000 := Int.mul_le_mul_of_nonneg_left b1 a0
  rw [e] at g2 g3 g4
  generalize a * b = q at *
  exact ⟨q / 10000, (a * 10000 - q) / 10000, ⟨h2, h1⟩, ⟨g2, g1⟩, ⟨by rw [k2]; omega, k1⟩, h3, h4, g3, g4, by omega, by omega, by omega, by omega, p0, by omega⟩

set_option maxHeartbeats 1600000 in
theorem walk (a0 a1 : Int) (w : World) (w0 : (Lit.int .i64 a0).wf = true) (w1 : (Lit.int .i64 a1).wf = true) :
    Calls Try.prog 3 #[.int .i64 a0, .int .i64 a1] w fun e w' => e = .returned (.bool true) ∧ Below w.heap.size w w' := by
  clear w0 w1
  have m0 := mask40 a0
  have m1 := mask14 a1
  go_enter Try.func3, Try.ntmps3
  go_wp2_with fail
  refine (awake_any _).mono ?_; rintro e w1 ⟨rfl, hb1⟩
  go_wp2_with fail
  generalize bits BinOp.and IntKind.i64 a0 1099511627775 = a at *
  generalize bits BinOp.and IntKind.i64 a1 16383 = p at *
  obtain ⟨b, hb⟩ : ∃ b, b = p % 10001 := ⟨_, rfl⟩
  have b0 : 0 ≤ b := by omega
  have b1 : b ≤ 10000 := by omega
  obtain ⟨x0, x1⟩ := m0
  rw [← hb]
  clear hb m1
  obtain ⟨x, y, hx, hy, hz, q⟩ := shares a b x0 x1 b0 b1
  obtain ⟨q0, q1, q2, q3, q4, q5, q6, q7, q8, q9⟩ := q
  have HX := Lib.hid hx
  have HY := Lib.hid hy
  have HZ := Lib.hid hz
  clear hx hy hz
  refine (share_any a b _ (by omega) (by omega) (by omega) (by omega)).mono ?_; rintro e w2 ⟨rfl, hb2⟩
  rw [HX.out.1, HX.out.2]
  have B2 := below_step hb1 hb2
  clear hb1 hb2
  go_wp2_with fail
  refine (share_any a (10000 - b) _ (by omega) (by omega) (by omega) (by omega)).mono ?_; rintro e w3 ⟨rfl, hb3⟩
  rw [HY.out.1, HY.out.2]
  have B3 := below_step B2 hb3
  clear B2 hb3
  go_wp2_with fail
  refine (share_any a 10000 _ (by omega) (by omega) (by omega) (by omega)).mono ?_; rintro e w4 ⟨rfl, hb4⟩
  rw [HZ.out.1, HZ.out.2]
  have B4 := below_step B3 hb4
  clear B3 hb4
  go_wp2_with fail
  go_ret
  exact ⟨rfl, B4⟩

theorem own : ownKnob Try.prog.godebug = none := by kernel_rfl
theorem laidOut : laidOutB Try.prog = true := by kernel_rfl

set_option maxRecDepth 100000 in
theorem lifted (os : Os) (started : os.Started) (H : Type) (enc : TypeId × Value → H) :
    ReturnsInHanded {} Try.checked os 3 .any (Rows.moneySharesSpec.pre6 enc Try.prog Try.f3 Rows.moneySharesRow.domain false) (Rows.moneySharesSpec.post enc Try.prog Try.f3 false true false false) := by
  refine returnsInHanded_of_change (C := Try.checked) own started (by kernel_rfl) Try.func3
    (ChangeSpec.witness6 (enc := enc) (C := Try.checked) false ⟨#[], #[.int .i64 0, .int .i64 0], []⟩ 8 (by kernel_rfl) (by kernel_rfl) (by kernel_rfl) (by kernel_rfl)) ?_
  intro W base args ds gs before hval0 hW hcnd hsz
  have hval : ∀ (j : Nat) t v, Try.f3.params[j]? = some t → args[j]? = some v → Value.okWide Try.prog W .any base t v := hval0
  have hW' := hW
  obtain ⟨p, q, hA0, hV, rfl, hfz, hnd⟩ := hW
  have hA : DataW.TrodAll enc Try.prog W 0 (fun _ => true) true Try.f3.params.toList args.toList ds p := hA0
  rw [Try.params3] at hA hval
  obtain ⟨v0, vs0, d0, ds0, p0, q0, hargs, rfl, rfl, h0, r0⟩ := trodAll_cons hA
  obtain ⟨v1, vs1, d1, ds1, p1, q1, rfl, rfl, rfl, h1, r1⟩ := trodAll_cons r0
  obtain ⟨rfl, rfl, rfl⟩ := trodAll_nil r1
  obtain rfl : args = #[v0, v1] := by cases args; simp_all
  obtain ⟨rfl, rfl⟩ := trodVars_none hV
  obtain ⟨a0, rfl, rfl, rfl, w0⟩ := open_int Try.underlying2 (hval 0 2 v0 rfl rfl) h0
  obtain ⟨a1, rfl, rfl, rfl, w1⟩ := open_int Try.underlying2 (hval 1 2 v1 rfl rfl) h1
  refine (walk a0 a1 W w0 w1).mono fun e W' ⟨he, hg⟩ => ?_
  subst he
  exact ⟨_, rfl, post_law laidOut (by kernel_rfl) rfl Try.underlying4 hW' rfl rfl hg⟩

theorem over : Rows.moneySharesRow.holds Try.pinned (OpenSpec.ofChange Rows.moneySharesSpec) :=
  OpenClaim.holds_of_wide 3 Try.f3 rfl rfl rfl rfl rfl rfl rfl ⟨rfl, rfl, rfl, rfl, rfl⟩ rfl rfl rfl rfl rfl (by kernel_rfl) Try.func3 (by kernel_rfl)
    (of_decide_eq_true (by kernel_rfl)) (by unfold Func.isWrapper; first | (rw [if_pos (by decide +kernel)]; kernel_rfl) | (rw [if_neg (by decide +kernel)]; exact ⟨rfl, rfl⟩))
    (fun os started H enc _ => lifted os started H enc)

/-- THE STATEMENT. -/
theorem proved : Rows.MoneySharesSaid := over
#print axioms proved
end Go.Proofs.Ytjobdibkpddemaa.moneyShares
