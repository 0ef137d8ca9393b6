/- 'vendue/venduelaw17.ActivityBuys' answers true at every input, and leaves its arguments as they were: the given statement Rows.ActivityBuysSaid. No condition. -/
import Derived.Test.YtidhleeoeapjmaaRows
import Derived.Test.YtidhleeoeapjmaaMem
import Derived.WalkKit
import Derived.ProofKit
import Derived.OpenShut
import Derived.Test.YtidhleeoeapjmaaActLaw
namespace Go.Proofs.Ytidhleeoeapjmaa.activityBuys
open Go.ChangeShapes Go.WideShapes Go.ChangeAt Go.RowKit
open Go.ChangeMaps (open_string shut_string)
set_option linter.unusedVariables false

theorem mask_bd (n : Int) (m : Nat) (hm : m < 9223372036854775808) : 0 ≤ bits BinOp.and IntKind.i64 n (m : Int) ∧ bits BinOp.and IntKind.i64 n (m : Int) ≤ m := by
  show 0 ≤ IntKind.i64.wrap ((BitVec.ofInt 64 n &&& BitVec.ofInt 64 (m : Int)).toNat : Int) ∧ IntKind.i64.wrap ((BitVec.ofInt 64 n &&& BitVec.ofInt 64 (m : Int)).toNat : Int) ≤ m
  rw [BitVec.toNat_and]
  have e : (BitVec.ofInt 64 (m : Int)).toNat = m := by
    rw [BitVec.ofInt_natCast, BitVec.toNat_ofNat]
    exact Nat.mod_eq_of_lt (by omega)
  have h : (BitVec.ofInt 64 n).toNat &&& (BitVec.ofInt 64 (m : Int)).toNat ≤ m := by
    rw [e]
    exact Nat.and_le_right
  generalize (BitVec.ofInt 64 n).toNat &&& (BitVec.ofInt 64 (m : Int)).toNat = x at *
  rw [IntKind.wrap_i64]
  omega
/-- The plain law: more money buys no fewer points; what was bought costs no more than was put in; one more would. -/
theorem buys (x y p : Int) (hx : 0 ≤ x) (hy : x ≤ y) (hp : 1 ≤ p) : boughtV x p ≤ boughtV y p ∧ boughtV x p * p ≤ x ∧ (boughtV x p = 1073741824 ∨ x < (boughtV x p + 1) * p) ∧ 0 ≤ boughtV x p ∧ boughtV x p ≤ 1073741824 := by
  have h0 : 0 ≤ x / p := Int.ediv_nonneg hx (by omega)
  have h1 : x / p * p ≤ x := Int.ediv_mul_le x (by omega)
  have h2 : x < (x / p + 1) * p := Int.lt_ediv_add_one_mul_self x (by omega)
  have h3 : x / p ≤ y / p := Int.ediv_le_ediv (by omega) hy
  have ex : boughtV x p = if x / p ≤ 1073741824 then x / p else 1073741824 := by unfold boughtV; exact if_neg (by omega)
  have ey : boughtV y p = if y / p ≤ 1073741824 then y / p else 1073741824 := by unfold boughtV; exact if_neg (by omega)
  rw [ex, ey]
  by_cases h4 : x / p ≤ 1073741824
  · rw [if_pos h4]
    refine ⟨?_, h1, Or.inr h2, h0, h4⟩
    split <;> omega
  · have h5 : 1073741824 * p ≤ x / p * p := Int.mul_le_mul_of_nonneg_right (by omega) (by omega)
    rw [if_neg h4, if_neg (by omega)]
    exact ⟨by omega, by omega, Or.inl rfl, by omega, by omega⟩

set_option maxHeartbeats 1000000 in
theorem walk (a0 a1 a2 : Int) (w : World) (w0 : (Lit.int .i64 a0).wf = true) (w1 : (Lit.int .i64 a1).wf = true) (w2 : (Lit.int .i64 a2).wf = true) :
    Calls Try.prog 6 #[.int .i64 a0, .int .i64 a1, .int .i64 a2] w fun e w' => e = .returned (.bool true) ∧ Below w.heap.size w w' := by
  have m0 : 0 ≤ bits BinOp.and IntKind.i64 a0 562949953421311 ∧ bits BinOp.and IntKind.i64 a0 562949953421311 ≤ 562949953421311 := mask_bd a0 562949953421311 (by omega)
  have m1 : 0 ≤ bits BinOp.and IntKind.i64 a1 562949953421311 ∧ bits BinOp.and IntKind.i64 a1 562949953421311 ≤ 562949953421311 := mask_bd a1 562949953421311 (by omega)
  have m2 : 0 ≤ bits BinOp.and IntKind.i64 a2 1048575 ∧ bits BinOp.and IntKind.i64 a2 1048575 ≤ 1048575 := mask_bd a2 1048575 (by omega)
  go_enter Try.func6, Try.ntmps6
  go_wp2_with fail
  refine (awake_any _).mono ?_; rintro e w' ⟨rfl, hb0⟩
  go_wp2_with fail
  generalize bits BinOp.and IntKind.i64 a0 562949953421311 = X at *
  generalize bits BinOp.and IntKind.i64 a1 562949953421311 = Y at *
  generalize bits BinOp.and IntKind.i64 a2 1048575 = Z at *
  clear w0 w1 w2
  have hb := buys X (X + Y) (1 + Z) (by omega) (by omega) (by omega)
  refine (bought_any X (1 + Z) _ (by omega)).mono ?_; rintro e w' ⟨rfl, rfl⟩
  obtain ⟨n, hn⟩ : ∃ n, n = boughtV X (1 + Z) := ⟨_, rfl⟩
  rw [← hn] at hb ⊢
  clear hn
  obtain ⟨g1, g2, g3, g4, g5⟩ := hb
  go_wp2_with fail
  refine (bought_any (X + Y) (1 + Z) _ (by omega)).mono ?_; rintro e w' ⟨rfl, rfl⟩
  have k1 : 0 ≤ n * (1 + Z) := Int.mul_nonneg g4 (by omega)
  have k2 : 0 ≤ (n + 1) * (1 + Z) := Int.mul_nonneg (by omega) (by omega)
  have k3 : (n + 1) * (1 + Z) = n * (1 + Z) + (1 + Z) := by rw [Int.add_mul, Int.one_mul]
  have k4 : (n + 1) * (1 + Z) ≤ 562949954469887 := by omega
  have K3 := Lib.hid k3
  clear k3
  by_cases hq : n = 1073741824
  · have q1 : (n == 1073741824) = true := by rw [hq]; rfl
    clear hq g3
    go_wp2_with fail
    go_ret
    exact ⟨rfl, hb0⟩
  · have q1 : (n == 1073741824) = false := beq_eq_false_iff_ne.2 hq
    have q2 : X < (n + 1) * (1 + Z) := by
      rcases g3 with h | h
      · exact absurd h hq
      · exact h
    clear hq g3
    go_wp2_with fail
    go_ret
    exact ⟨rfl, hb0⟩

theorem own : ownKnob Try.prog.godebug = none := by kernel_rfl
theorem laidOut : laidOutB Try.prog = true := by kernel_rfl

set_option maxRecDepth 100000 in
theorem lifted (os : Os) (started : os.Started) (H : Type) (enc : TypeId × Value → H) :
    ReturnsInHanded {} Try.checked os 6 .any (Rows.activityBuysSpec.pre6 enc Try.prog Try.f6 Rows.activityBuysRow.domain false) (Rows.activityBuysSpec.post enc Try.prog Try.f6 false true false false) := by
  refine returnsInHanded_of_change (C := Try.checked) own started (by kernel_rfl) Try.func6
    (ChangeSpec.witness6 (enc := enc) (C := Try.checked) false ⟨#[], #[.int .i64 0, .int .i64 0, .int .i64 0], []⟩ 8 (by kernel_rfl) (by kernel_rfl) (by kernel_rfl) (by kernel_rfl)) ?_
  intro W base args ds gs before hval0 hW hcnd hsz
  have hval : ∀ (j : Nat) t v, Try.f6.params[j]? = some t → args[j]? = some v → Value.okWide Try.prog W .any base t v := hval0
  have hW' := hW
  obtain ⟨p, q, hA0, hV, rfl, hfz, hnd⟩ := hW
  have hA : DataW.TrodAll enc Try.prog W 0 (fun _ => true) true Try.f6.params.toList args.toList ds p := hA0
  rw [Try.params6] at hA hval
  obtain ⟨v0, vs0, d0, ds0, p0, q0, hargs, rfl, rfl, h0, r0⟩ := trodAll_cons hA
  obtain ⟨v1, vs1, d1, ds1, p1, q1, rfl, rfl, rfl, h1, r1⟩ := trodAll_cons r0
  obtain ⟨v2, vs2, d2, ds2, p2, q2, rfl, rfl, rfl, h2, r2⟩ := trodAll_cons r1
  obtain ⟨rfl, rfl, rfl⟩ := trodAll_nil r2
  obtain rfl : args = #[v0, v1, v2] := by cases args; simp_all
  obtain ⟨rfl, rfl⟩ := trodVars_none hV
  obtain ⟨a0, rfl, rfl, rfl, w0⟩ := open_int Try.underlying2 (hval 0 2 v0 rfl rfl) h0
  obtain ⟨a1, rfl, rfl, rfl, w1⟩ := open_int Try.underlying2 (hval 1 2 v1 rfl rfl) h1
  obtain ⟨a2, rfl, rfl, rfl, w2⟩ := open_int Try.underlying2 (hval 2 2 v2 rfl rfl) h2
  refine (walk a0 a1 a2 W w0 w1 w2).mono fun e W' ⟨he, hg⟩ => ?_
  subst he
  exact ⟨_, rfl, post_law laidOut (by kernel_rfl) rfl Try.underlying4 hW' rfl rfl hg⟩

theorem over : Rows.activityBuysRow.holds Try.pinned (OpenSpec.ofChange Rows.activityBuysSpec) :=
  OpenClaim.holds_of_wide 6 Try.f6 rfl rfl rfl rfl rfl rfl rfl ⟨rfl, rfl, rfl, rfl, rfl⟩ rfl rfl rfl rfl rfl (by kernel_rfl) Try.func6 (by kernel_rfl)
    (of_decide_eq_true (by kernel_rfl)) (by unfold Func.isWrapper; first | (rw [if_pos (by decide +kernel)]; kernel_rfl) | (rw [if_neg (by decide +kernel)]; exact ⟨rfl, rfl⟩))
    (fun os started H enc _ => lifted os started H enc)

/-- THE STATEMENT. -/
theorem proved : Rows.ActivityBuysSaid := over
#print axioms proved
end Go.Proofs.Ytidhleeoeapjmaa.activityBuys
