/- 'vendue/venduelaw01.MoneySums' answers true at every input, and leaves its arguments as they were: the given statement Rows.MoneySumsSaid. No condition. -/
import Derived.Test.YtjobdibkpddemaaRows
import Derived.Test.YtjobdibkpddemaaMem
import Derived.WalkKit
import Derived.ProofKit
import Derived.OpenShut
import Derived.Test.YtjobdibkpddemaaMoneyUse
import Derived.Test.YtjobdibkpddemaaOpenRow
namespace Go.Proofs.Ytjobdibkpddemaa.moneySums
open Go.ChangeShapes Go.WideShapes Go.ChangeAt Go.RowKit
open Go.ChangeMaps (open_string shut_string)
set_option linter.unusedVariables false

theorem tail (a b : Int) (p : Option Addr) (cap : Nat) (zs : List Int) (w : World) : True := trivial

set_option maxHeartbeats 3200000 in
theorem walk (a b : Int) (p : Option Addr) (cap : Nat) (zs : List Int) (w : World) (w0 : (Lit.int .i64 a).wf = true) (w1 : (Lit.int .i64 b).wf = true) (k0 : zs.length ≤ cap) (k1 : cap ≤ maxLen) (k2 : Row64 w p zs) (k3 : In64 zs) :
    Calls Try.prog 10 #[.int .i64 a, .int .i64 b, .slice p zs.length cap] w fun e w' => e = .returned (.bool true) ∧ Below w.heap.size w w' := by
  obtain ⟨a0, a1⟩ := bd_i64 _ w0
  obtain ⟨b0, b1⟩ := bd_i64 _ w1
  clear w0 w1
  unfold maxLen at k1
  have Z := Lib.hid (show ∀ x : Int, (x == x) = true from fun x => beq_self_eq_true x)
  obtain ⟨n, hn⟩ : ∃ n, n = zs.length := ⟨_, rfl⟩
  rw [← hn] at k0 ⊢
  have HN := Lib.hid hn
  clear hn
  by_cases h20 : 20 < n
  · have T2 := row64_take k2 20
    have T3 := in64_take k3 20
    have HL := Lib.hid (show (zs.take 20).length = 20 by rw [List.length_take, ← HN.out]; omega)
    go_enter Try.func10, Try.ntmps10
    go_wp2_with fail
    refine (awake_any _).mono ?_; rintro e w1 ⟨rfl, hb1⟩
    have R1 := row64_step T2 hb1
    clear k2 k3
    go_wp2_with fail
    refine (add_any a b _ a0 a1 b0 b1).mono ?_; rintro e w2 ⟨rfl, hb2⟩
    have B2 := below_step hb1 hb2
    have R2 := row64_step R1 hb2
    clear hb1 hb2 R1
    go_wp2_with fail
    refine (refAdd_any a b _ a0 a1 b0 b1).mono ?_; rintro e w3 ⟨rfl, rfl⟩
    rw [show addV a b = fitV (a + b) from rfl, show addE a b = fitE (a + b) from rfl]
    generalize fitV (a + b) = x1 at *
    generalize fitE (a + b) = x2 at *
    go_wp2_with fail
    refine (sub_any a b _ a0 a1 b0 b1).mono ?_; rintro e w4 ⟨rfl, rfl⟩
    go_wp2_with fail
    refine (refSub_any a b _ a0 a1 b0 b1).mono ?_; rintro e w5 ⟨rfl, rfl⟩
    generalize fitV (a - b) = x3 at *
    generalize fitE (a - b) = x4 at *
    go_wp2_with fail
    refine (times_any a b _ a0 a1 b0 b1).mono ?_; rintro e w6 ⟨rfl, rfl⟩
    go_wp2_with fail
    refine (refTimes_any a b _ a0 a1 b0 b1).mono ?_; rintro e w7 ⟨rfl, rfl⟩
    generalize fitV (a * b) = x5 at *
    generalize fitE (a * b) = x6 at *
    go_wp2_with fail
    have hs := sum_any p cap (zs.take 20) w2 R2 T3 (by rw [HL.out]; omega)
    rw [HL.out] at hs
    refine hs.mono ?_; clear hs; rintro e w8 ⟨rfl, hb8⟩
    have B8 := below_step B2 hb8
    have R8 := row64_step R2 hb8
    clear hb8 B2 R2
    go_wp2_with fail
    have hs := refSum_any p cap (zs.take 20) w8 R8 T3 (by rw [HL.out]; omega)
    rw [HL.out] at hs
    refine hs.mono ?_; clear hs; rintro e w9 ⟨rfl, hb9⟩
    have B9 := below_step B8 hb9
    clear hb9 B8 R8 T3
    generalize sumV (zs.take 20) = x7 at *
    generalize sumE (zs.take 20) = x8 at *
    have z1 := Z.out x1
    have z2 := Z.out x2
    have z3 := Z.out x3
    have z4 := Z.out x4
    have z5 := Z.out x5
    have z6 := Z.out x6
    have z7 := Z.out x7
    have z8 := Z.out x8
    go_wp2_with fail
    go_ret
    exact ⟨rfl, B9⟩
  · have T3 := k3
    have T2 := k2
    have HL := Lib.hid (show zs.length = n from HN.out.symm)
    go_enter Try.func10, Try.ntmps10
    go_wp2_with fail
    refine (awake_any _).mono ?_; rintro e w1 ⟨rfl, hb1⟩
    have R1 := row64_step T2 hb1
    clear k2 k3
    go_wp2_with fail
    refine (add_any a b _ a0 a1 b0 b1).mono ?_; rintro e w2 ⟨rfl, hb2⟩
    have B2 := below_step hb1 hb2
    have R2 := row64_step R1 hb2
    clear hb1 hb2 R1
    go_wp2_with fail
    refine (refAdd_any a b _ a0 a1 b0 b1).mono ?_; rintro e w3 ⟨rfl, rfl⟩
    rw [show addV a b = fitV (a + b) from rfl, show addE a b = fitE (a + b) from rfl]
    generalize fitV (a + b) = x1 at *
    generalize fitE (a + b) = x2 at *
    go_wp2_with fail
    refine (sub_any a b _ a0 a1 b0 b1).mono ?_; rintro e w4 ⟨rfl, rfl⟩
    go_wp2_with fail
    refine (refSub_any a b _ a0 a1 b0 b1).mono ?_; rintro e w5 ⟨rfl, rfl⟩
    generalize fitV (a - b) = x3 at *
    generalize fitE (a - b) = x4 at *
    go_wp2_with fail
    refine (times_any a b _ a0 a1 b0 b1).mono ?_; rintro e w6 ⟨rfl, rfl⟩
    go_wp2_with fail
    refine (refTimes_any a b _ a0 a1 b0 b1).mono ?_; rintro e w7 ⟨rfl, rfl⟩
    generalize fitV (a * b) = x5 at *
    generalize fitE (a * b) = x6 at *
    go_wp2_with fail
    have hs := sum_any p cap zs w2 R2 T3 (by rw [HL.out]; omega)
    rw [HL.out] at hs
    refine hs.mono ?_; clear hs; rintro e w8 ⟨rfl, hb8⟩
    have B8 := below_step B2 hb8
    have R8 := row64_step R2 hb8
    clear hb8 B2 R2
    go_wp2_with fail
    have hs := refSum_any p cap zs w8 R8 T3 (by rw [HL.out]; omega)
    rw [HL.out] at hs
    refine hs.mono ?_; clear hs; rintro e w9 ⟨rfl, hb9⟩
    have B9 := below_step B8 hb9
    clear hb9 B8 R8 T3
    generalize sumV zs = x7 at *
    generalize sumE zs = x8 at *
    have z1 := Z.out x1
    have z2 := Z.out x2
    have z3 := Z.out x3
    have z4 := Z.out x4
    have z5 := Z.out x5
    have z6 := Z.out x6
    have z7 := Z.out x7
    have z8 := Z.out x8
    go_wp2_with fail
    go_ret
    exact ⟨rfl, B9⟩

theorem own : ownKnob Try.prog.godebug = none := by kernel_rfl
theorem laidOut : laidOutB Try.prog = true := by kernel_rfl

set_option maxRecDepth 100000 in
theorem lifted (os : Os) (started : os.Started) (H : Type) (enc : TypeId × Value → H) :
    ReturnsInHanded {} Try.checked os 10 .any (Rows.moneySumsSpec.pre6 enc Try.prog Try.f10 Rows.moneySumsRow.domain false) (Rows.moneySumsSpec.post enc Try.prog Try.f10 false true false false) := by
  refine returnsInHanded_of_change (C := Try.checked) own started (by kernel_rfl) Try.func10
    (ChangeSpec.witness6 (enc := enc) (C := Try.checked) false ⟨#[], #[.int .i64 0, .int .i64 0, .slice none 0 0], []⟩ 8 (by kernel_rfl) (by kernel_rfl) (by kernel_rfl) (by kernel_rfl)) ?_
  intro W base args ds gs before hval0 hW hcnd hsz
  have hval : ∀ (j : Nat) t v, Try.f10.params[j]? = some t → args[j]? = some v → Value.okWide Try.prog W .any base t v := hval0
  have hW' := hW
  obtain ⟨p, q, hA0, hV, rfl, hfz, hnd⟩ := hW
  have hA : DataW.TrodAll enc Try.prog W 0 (fun _ => true) true Try.f10.params.toList args.toList ds p := hA0
  rw [Try.params10] at hA hval
  obtain ⟨v0, vs0, d0, ds0, p0, q0, hargs, rfl, rfl, h0, r0⟩ := trodAll_cons hA
  obtain ⟨v1, vs1, d1, ds1, p1, q1, rfl, rfl, rfl, h1, r1⟩ := trodAll_cons r0
  obtain ⟨v2, vs2, d2, ds2, p2, q2, rfl, rfl, rfl, h2, r2⟩ := trodAll_cons r1
  obtain ⟨rfl, rfl, rfl⟩ := trodAll_nil r2
  obtain rfl : args = #[v0, v1, v2] := by cases args; simp_all
  obtain ⟨rfl, rfl⟩ := trodVars_none hV
  obtain ⟨a0, rfl, rfl, rfl, w0⟩ := open_int Try.underlying2 (hval 0 2 v0 rfl rfl) h0
  obtain ⟨a1, rfl, rfl, rfl, w1⟩ := open_int Try.underlying2 (hval 1 2 v1 rfl rfl) h1
  obtain ⟨a2, cap2, zs, rfl, k0, k1, k2, k3⟩ := open_row64 Try.underlying27 Try.underlying2 (by kernel_rfl) (hval 2 27 v2 rfl rfl) h2
  refine (walk a0 a1 a2 cap2 zs W w0 w1 k0 k1 k2 k3).mono fun e W' ⟨he, hg⟩ => ?_
  subst he
  exact ⟨_, rfl, post_law laidOut (by kernel_rfl) rfl Try.underlying4 hW' rfl rfl hg⟩

theorem over : Rows.moneySumsRow.holds Try.pinned (OpenSpec.ofChange Rows.moneySumsSpec) :=
  OpenClaim.holds_of_wide 10 Try.f10 rfl rfl rfl rfl rfl rfl rfl ⟨rfl, rfl, rfl, rfl, rfl⟩ rfl rfl rfl rfl rfl (by kernel_rfl) Try.func10 (by kernel_rfl)
    (of_decide_eq_true (by kernel_rfl)) (by unfold Func.isWrapper; first | (rw [if_pos (by decide +kernel)]; kernel_rfl) | (rw [if_neg (by decide +kernel)]; exact ⟨rfl, rfl⟩))
    (fun os started H enc _ => lifted os started H enc)

/-- THE STATEMENT. -/
theorem proved : Rows.MoneySumsSaid := over
#print axioms proved
end Go.Proofs.Ytjobdibkpddemaa.moneySums
