/- 'vendue/venduelaw01.MoneyBack' answers true at every input, and leaves its arguments as they were: the given statement Rows.MoneyBackSaid. No condition. -/
import Derived.Test.YtjobdibkpddemaaRows
import Derived.Test.YtjobdibkpddemaaMem
import Derived.WalkKit
import Derived.ProofKit
import Derived.OpenShut
import Derived.Test.YtjobdibkpddemaaMoneyUse
namespace Go.Proofs.Ytjobdibkpddemaa.moneyBack
open Go.ChangeShapes Go.WideShapes Go.ChangeAt Go.RowKit
open Go.ChangeMaps (open_string shut_string)
set_option linter.unusedVariables false

theorem in64_3 (a b c : Int) (ha : -9223372036854775808 ≤ a ∧ a ≤ 9223372036854775807) (hb : -9223372036854775808 ≤ b ∧ b ≤ 9223372036854775807) (hc : -9223372036854775808 ≤ c ∧ c ≤ 9223372036854775807) : In64 [a, b, c] := fun i hi => by
  match i, hi with
  | 0, _ => exact ha
  | 1, _ => exact hb
  | 2, _ => exact hc
theorem in64_5 (a b c : Int) (ha : -9223372036854775808 ≤ a ∧ a ≤ 9223372036854775807) (hb : -9223372036854775808 ≤ b ∧ b ≤ 9223372036854775807) (hc : -9223372036854775808 ≤ c ∧ c ≤ 9223372036854775807) : In64 [a, b, c, -1, 1] := fun i hi => by
  match i, hi with
  | 0, _ => exact ha
  | 1, _ => exact hb
  | 2, _ => exact hc
  | 3, _ => exact (show (-9223372036854775808 : Int) ≤ -1 ∧ (-1 : Int) ≤ 9223372036854775807 by decide)
  | 4, _ => exact (show (-9223372036854775808 : Int) ≤ 1 ∧ (1 : Int) ≤ 9223372036854775807 by decide)
theorem turned (a b c : Int) : sumV [c, a, b] = sumV [a, b, c] ∧ sumE [c, a, b] = sumE [a, b, c] ∧ sumV [a, b, c, -1, 1] = sumV [a, b, c] ∧ sumE [a, b, c, -1, 1] = sumE [a, b, c] := by
  have e1 : [c, a, b].sum = [a, b, c].sum := by simp; omega
  have e2 : [a, b, c, -1, 1].sum = [a, b, c].sum := by simp
  unfold sumV sumE
  rw [e1, e2]
  exact ⟨rfl, rfl, rfl, rfl⟩

set_option maxHeartbeats 1600000 in
theorem walk (a b c : Int) (w : World) (ha : (Lit.int .i64 a).wf = true) (hb : (Lit.int .i64 b).wf = true) (hc : (Lit.int .i64 c).wf = true) :
    Calls Try.prog 8 #[.int .i64 a, .int .i64 b, .int .i64 c] w fun e w' => e = .returned (.bool true) ∧ Below w.heap.size w w' := by
  have ba := bd_i64 _ ha
  have bb := bd_i64 _ hb
  have bc := bd_i64 _ hc
  clear ha hb hc
  have I3 := in64_3 a b c ba bb bc
  have I3' := in64_3 c a b bc ba bb
  have I5 := in64_5 a b c ba bb bc
  have T := Lib.hid (turned a b c)
  obtain ⟨a0, a1⟩ := ba
  obtain ⟨b0, b1⟩ := bb
  obtain ⟨c0, c1⟩ := bc
  by_cases hs : -9223372036854775808 ≤ a + b ∧ a + b ≤ 9223372036854775807
  · have F := Lib.hid (show addV a b = a + b ∧ addE a b = 0 from fit_in hs)
    have G := Lib.hid (show fitV (a + b - b) = a ∧ fitE (a + b - b) = 0 by rw [Int.add_sub_cancel]; exact fit_in ⟨a0, a1⟩)
    obtain ⟨s0, s1⟩ := hs
    go_enter Try.func8, Try.ntmps8
    go_wp2_with fail
    refine (awake_any _).mono ?_; rintro e w1 ⟨rfl, hb1⟩
    go_wp2_with fail
    refine (add_any a b _ a0 a1 b0 b1).mono ?_; rintro e w2 ⟨rfl, hb2⟩
    rw [F.out.1, F.out.2]
    have B2 := below_step hb1 hb2
    clear hb1 hb2
    go_wp2_with fail
    refine (sub_any (a + b) b _ s0 s1 b0 b1).mono ?_; rintro e w3 ⟨rfl, rfl⟩
    rw [G.out.1, G.out.2]
    go_wp2_with fail
    refine (sum_any _ 3 [a, b, c] _ (row64_lit _ _ _ rfl) I3 (by simp)).mono ?_; rintro e w4 ⟨rfl, hb4⟩
    have B4 := below_step (B2.alloc B2.size _) hb4
    clear B2 hb4
    go_wp2_with fail
    refine (sum_any _ 3 [c, a, b] _ (row64_lit _ _ _ rfl) I3' (by simp)).mono ?_; rintro e w5 ⟨rfl, hb5⟩
    rw [T.out.1, T.out.2.1]
    have B5 := below_step (B4.alloc B4.size _) hb5
    clear B4 hb5
    go_wp2_with fail
    refine (sum_any _ 5 [a, b, c, -1, 1] _ (row64_lit _ _ _ rfl) I5 (by simp)).mono ?_; rintro e w6 ⟨rfl, hb6⟩
    rw [T.out.2.2.1, T.out.2.2.2]
    have B6 := below_step (B5.alloc B5.size _) hb6
    clear B5 hb6
    go_wp2_with fail
    go_ret
    exact ⟨rfl, B6⟩
  · have F := Lib.hid (show addV a b = 0 ∧ addE a b = 16 from fit_out hs)
    clear hs
    go_enter Try.func8, Try.ntmps8
    go_wp2_with fail
    refine (awake_any _).mono ?_; rintro e w1 ⟨rfl, hb1⟩
    go_wp2_with fail
    refine (add_any a b _ a0 a1 b0 b1).mono ?_; rintro e w2 ⟨rfl, hb2⟩
    rw [F.out.1, F.out.2]
    have B2 := below_step hb1 hb2
    clear hb1 hb2
    go_wp2_with fail
    refine (sum_any _ 3 [a, b, c] _ (row64_lit _ _ _ rfl) I3 (by simp)).mono ?_; rintro e w4 ⟨rfl, hb4⟩
    have B4 := below_step (B2.alloc B2.size _) hb4
    clear B2 hb4
    go_wp2_with fail
    refine (sum_any _ 3 [c, a, b] _ (row64_lit _ _ _ rfl) I3' (by simp)).mono ?_; rintro e w5 ⟨rfl, hb5⟩
    rw [T.out.1, T.out.2.1]
    have B5 := below_step (B4.alloc B4.size _) hb5
    clear B4 hb5
    go_wp2_with fail
    refine (sum_any _ 5 [a, b, c, -1, 1] _ (row64_lit _ _ _ rfl) I5 (by simp)).mono ?_; rintro e w6 ⟨rfl, hb6⟩
    rw [T.out.2.2.1, T.out.2.2.2]
    have B6 := below_step (B5.alloc B5.size _) hb6
    clear B5 hb6
    go_wp2_with fail
    go_ret
    exact ⟨rfl, B6⟩

theorem own : ownKnob Try.prog.godebug = none := by kernel_rfl
theorem laidOut : laidOutB Try.prog = true := by kernel_rfl

set_option maxRecDepth 100000 in
theorem lifted (os : Os) (started : os.Started) (H : Type) (enc : TypeId × Value → H) :
    ReturnsInHanded {} Try.checked os 8 .any (Rows.moneyBackSpec.pre6 enc Try.prog Try.f8 Rows.moneyBackRow.domain false) (Rows.moneyBackSpec.post enc Try.prog Try.f8 false true false false) := by
  refine returnsInHanded_of_change (C := Try.checked) own started (by kernel_rfl) Try.func8
    (ChangeSpec.witness6 (enc := enc) (C := Try.checked) false ⟨#[], #[.int .i64 0, .int .i64 0, .int .i64 0], []⟩ 8 (by kernel_rfl) (by kernel_rfl) (by kernel_rfl) (by kernel_rfl)) ?_
  intro W base args ds gs before hval0 hW hcnd hsz
  have hval : ∀ (j : Nat) t v, Try.f8.params[j]? = some t → args[j]? = some v → Value.okWide Try.prog W .any base t v := hval0
  have hW' := hW
  obtain ⟨p, q, hA0, hV, rfl, hfz, hnd⟩ := hW
  have hA : DataW.TrodAll enc Try.prog W 0 (fun _ => true) true Try.f8.params.toList args.toList ds p := hA0
  rw [Try.params8] at hA hval
  obtain ⟨v0, vs0, d0, ds0, p0, q0, hargs, rfl, rfl, h0, r0⟩ := trodAll_cons hA
  obtain ⟨v1, vs1, d1, ds1, p1, q1, rfl, rfl, rfl, h1, r1⟩ := trodAll_cons r0
  obtain ⟨v2, vs2, d2, ds2, p2, q2, rfl, rfl, rfl, h2, r2⟩ := trodAll_cons r1
  obtain ⟨rfl, rfl, rfl⟩ := trodAll_nil r2
  obtain rfl : args = #[v0, v1, v2] := by cases args; simp_all
  obtain ⟨rfl, rfl⟩ := trodVars_none hV
  obtain ⟨a0, rfl, rfl, rfl, w0⟩ := open_int Try.underlying2 (hval 0 2 v0 rfl rfl) h0
  obtain ⟨a1, rfl, rfl, rfl, w1⟩ := open_int Try.underlying2 (hval 1 2 v1 rfl rfl) h1
  obtain ⟨a2, rfl, rfl, rfl, w2⟩ := open_int Try.underlying2 (hval 2 2 v2 rfl rfl) h2
  refine (walk a0 a1 a2 W w0 w1 w2).mono fun e W' ⟨he, hg⟩ => ?_
  subst he
  exact ⟨_, rfl, post_law laidOut (by kernel_rfl) rfl Try.underlying4 hW' rfl rfl hg⟩

theorem over : Rows.moneyBackRow.holds Try.pinned (OpenSpec.ofChange Rows.moneyBackSpec) :=
  OpenClaim.holds_of_wide 8 Try.f8 rfl rfl rfl rfl rfl rfl rfl ⟨rfl, rfl, rfl, rfl, rfl⟩ rfl rfl rfl rfl rfl (by kernel_rfl) Try.func8 (by kernel_rfl)
    (of_decide_eq_true (by kernel_rfl)) (by unfold Func.isWrapper; first | (rw [if_pos (by decide +kernel)]; kernel_rfl) | (rw [if_neg (by decide +kernel)]; exact ⟨rfl, rfl⟩))
    (fun os started H enc _ => lifted os started H enc)

/-- THE STATEMENT. -/
theorem proved : Rows.MoneyBackSaid := over
#print axioms proved
end Go.Proofs.Ytjobdibkpddemaa.moneyBack
