/- 'vendue/venduelaw01.MoneyParts' answers true at every input, and leaves its arguments as they were: the given statement Rows.MoneyPartsSaid. No condition. -/
import Derived.Test.YtjobdibkpddemaaRows
import Derived.Test.YtjobdibkpddemaaMem
import Derived.WalkKit
import Derived.ProofKit
import Derived.OpenShut
import Derived.Test.YtjobdibkpddemaaMoneyUse
namespace Go.Proofs.Ytjobdibkpddemaa.moneyParts
open Go.ChangeShapes Go.WideShapes Go.ChangeAt Go.RowKit
open Go.ChangeMaps (open_string shut_string)
set_option linter.unusedVariables false

theorem same_self (zs : List Int) : sameB zs zs = true := decide_eq_true rfl
theorem nar_bd (a n : Int) (a0 : -9223372036854775808 ≤ a) (a1 : a ≤ 9223372036854775807) : True := trivial

set_option maxHeartbeats 3200000 in
theorem walk (a b n : Int) (w : World) (w0 : (Lit.int .i64 a).wf = true) (w1 : (Lit.int .i64 b).wf = true) (w2 : (Lit.int .i64 n).wf = true) :
    Calls Try.prog 7 #[.int .i64 a, .int .i64 b, .int .i64 n] w fun e w' => e = .returned (.bool true) ∧ Below w.heap.size w w' := by
  obtain ⟨a0, a1⟩ := bd_i64 _ w0
  obtain ⟨b0, b1⟩ := bd_i64 _ w1
  obtain ⟨n0, n1⟩ := bd_i64 _ w2
  clear w0 w1 w2
  have Z := Lib.hid (show ∀ x : Int, (x == x) = true from fun x => beq_self_eq_true x)
  have ZB := Lib.hid (show ∀ x : Bool, (x == x) = true from fun x => beq_self_eq_true x)
  by_cases hn : 2000 < n
  · go_enter Try.func7, Try.ntmps7
    go_wp2_with fail
    refine (awake_any _).mono ?_; rintro e w1 ⟨rfl, hb1⟩
    go_wp2_with fail
    refine (share_any a b _ a0 a1 b0 b1).mono ?_; rintro e w2 ⟨rfl, hb2⟩
    have B2 := below_step hb1 hb2
    clear hb1 hb2
    go_wp2_with fail
    refine (refShare_any a b _ a0 a1 b0 b1).mono ?_; rintro e w3 ⟨rfl, rfl⟩
    generalize shareV a b = s at *
    generalize shareE a b = t at *
    go_wp2_with fail
    refine (up_any a b _ a0 a1 b0 b1).mono ?_; rintro e w4 ⟨rfl, hb4⟩
    have B4 := below_step B2 hb4
    clear B2 hb4
    go_wp2_with fail
    refine (refUp_any a b _ a0 a1 b0 b1).mono ?_; rintro e w5 ⟨rfl, rfl⟩
    generalize upV a b = u at *
    generalize upE a b = v at *
    have PL := splitL_len a 2000
    go_wp2_with fail
    refine (split_any a 2000 _ a0 a1).mono ?_; rintro e w6 ⟨p, cap, rfl, hr, hb6⟩
    have B6 := below_step B4 hb6
    clear B4 hb6
    go_wp2_with fail
    refine (refSplit_any a 2000 _ a0 a1).mono ?_; rintro e w7 ⟨p2, cap2, rfl, hr2, hb7⟩
    have B7 := below_step B6 hb7
    have hr1 := row64_step hr hb7
    clear B6 hb7 hr
    go_wp2_with fail
    refine (narrow_any a 2000 _ a0 a1).mono ?_; rintro e w8 ⟨rfl, rfl⟩
    go_wp2_with fail
    refine (refNarrow_any a 2000 _ a0 a1).mono ?_; rintro e w9 ⟨rfl, rfl⟩
    go_wp2_with fail
    have hs := same_any p p2 cap cap2 (splitL a 2000) (splitL a 2000) w7 hr1 hr2 (by omega) (by omega)
    refine hs.mono ?_; clear hs; rintro e w10 ⟨rfl, hb10⟩
    rw [same_self]
    generalize narV a 2000 = x at *
    generalize narB a 2000 = y at *
    generalize splitE a 2000 = z at *
    have B10 := below_step B7 hb10
    have z1 := Z.out s
    have z2 := Z.out t
    have z3 := Z.out u
    have z4 := Z.out v
    have z5 := Z.out x
    have z6 := ZB.out y
    have z7 := Z.out z
    clear hr1 hr2
    go_wp2_with fail
    go_ret
    exact ⟨rfl, B10⟩
  · go_enter Try.func7, Try.ntmps7
    go_wp2_with fail
    refine (awake_any _).mono ?_; rintro e w1 ⟨rfl, hb1⟩
    go_wp2_with fail
    refine (share_any a b _ a0 a1 b0 b1).mono ?_; rintro e w2 ⟨rfl, hb2⟩
    have B2 := below_step hb1 hb2
    clear hb1 hb2
    go_wp2_with fail
    refine (refShare_any a b _ a0 a1 b0 b1).mono ?_; rintro e w3 ⟨rfl, rfl⟩
    generalize shareV a b = s at *
    generalize shareE a b = t at *
    go_wp2_with fail
    refine (up_any a b _ a0 a1 b0 b1).mono ?_; rintro e w4 ⟨rfl, hb4⟩
    have B4 := below_step B2 hb4
    clear B2 hb4
    go_wp2_with fail
    refine (refUp_any a b _ a0 a1 b0 b1).mono ?_; rintro e w5 ⟨rfl, rfl⟩
    generalize upV a b = u at *
    generalize upE a b = v at *
    have PL := splitL_len a n
    go_wp2_with fail
    refine (split_any a n _ a0 a1).mono ?_; rintro e w6 ⟨p, cap, rfl, hr, hb6⟩
    have B6 := below_step B4 hb6
    clear B4 hb6
    go_wp2_with fail
    refine (refSplit_any a n _ a0 a1).mono ?_; rintro e w7 ⟨p2, cap2, rfl, hr2, hb7⟩
    have B7 := below_step B6 hb7
    have hr1 := row64_step hr hb7
    clear B6 hb7 hr
    go_wp2_with fail
    refine (narrow_any a n _ a0 a1).mono ?_; rintro e w8 ⟨rfl, rfl⟩
    go_wp2_with fail
    refine (refNarrow_any a n _ a0 a1).mono ?_; rintro e w9 ⟨rfl, rfl⟩
    go_wp2_with fail
    have hs := same_any p p2 cap cap2 (splitL a n) (splitL a n) w7 hr1 hr2 (by omega) (by omega)
    refine hs.mono ?_; clear hs; rintro e w10 ⟨rfl, hb10⟩
    rw [same_self]
    generalize narV a n = x at *
    generalize narB a n = y at *
    generalize splitE a n = z at *
    have B10 := below_step B7 hb10
    have z1 := Z.out s
    have z2 := Z.out t
    have z3 := Z.out u
    have z4 := Z.out v
    have z5 := Z.out x
    have z6 := ZB.out y
    have z7 := Z.out z
    clear hr1 hr2
    go_wp2_with fail
    go_ret
    exact ⟨rfl, B10⟩

theorem own : ownKnob Try.prog.godebug = none := by kernel_rfl
theorem laidOut : laidOutB Try.prog = true := by kernel_rfl

set_option maxRecDepth 100000 in
theorem lifted (os : Os) (started : os.Started) (H : Type) (enc : TypeId × Value → H) :
    ReturnsInHanded {} Try.checked os 7 .any (Rows.moneyPartsSpec.pre6 enc Try.prog Try.f7 Rows.moneyPartsRow.domain false) (Rows.moneyPartsSpec.post enc Try.prog Try.f7 false true false false) := by
  refine returnsInHanded_of_change (C := Try.checked) own started (by kernel_rfl) Try.func7
    (ChangeSpec.witness6 (enc := enc) (C := Try.checked) false ⟨#[], #[.int .i64 0, .int .i64 0, .int .i64 0], []⟩ 8 (by kernel_rfl) (by kernel_rfl) (by kernel_rfl) (by kernel_rfl)) ?_
  intro W base args ds gs before hval0 hW hcnd hsz
  have hval : ∀ (j : Nat) t v, Try.f7.params[j]? = some t → args[j]? = some v → Value.okWide Try.prog W .any base t v := hval0
  have hW' := hW
  obtain ⟨p, q, hA0, hV, rfl, hfz, hnd⟩ := hW
  have hA : DataW.TrodAll enc Try.prog W 0 (fun _ => true) true Try.f7.params.toList args.toList ds p := hA0
  rw [Try.params7] at hA hval
  obtain ⟨v0, vs0, d0, ds0, p0, q0, hargs, rfl, rfl, h0, r0⟩ := trodAll_cons hA
  obtain ⟨v1, vs1, d1, ds1, p1, q1, rfl, rfl, rfl, h1, r1⟩ := trodAll_cons r0
  obtain ⟨v2, vs2, d2, ds2, p2, q2, rfl, rfl, rfl, h2, r2⟩ := trodAll_cons r1
  obtain ⟨rfl, rfl, rfl⟩ := trodAll_nil r2
  obtain rfl : args = #[v0, v1, v2] := by cases args; simp_all
  obtain ⟨rfl, rfl⟩ := trodVars_none hV
  obtain ⟨a0, rfl, rfl, rfl, w0⟩ := open_int Try.underlying2 (hval 0 2 v0 rfl rfl) h0
  obtain ⟨a1, rfl, rfl, rfl, w1⟩ := open_int Try.underlying2 (hval 1 2 v1 rfl rfl) h1
  obtain ⟨a2, rfl, rfl, rfl, w2⟩ := open_int Try.underlying3 (hval 2 3 v2 rfl rfl) h2
  refine (walk a0 a1 a2 W w0 w1 w2).mono fun e W' ⟨he, hg⟩ => ?_
  subst he
  exact ⟨_, rfl, post_law laidOut (by kernel_rfl) rfl Try.underlying4 hW' rfl rfl hg⟩

theorem over : Rows.moneyPartsRow.holds Try.pinned (OpenSpec.ofChange Rows.moneyPartsSpec) :=
  OpenClaim.holds_of_wide 7 Try.f7 rfl rfl rfl rfl rfl rfl rfl ⟨rfl, rfl, rfl, rfl, rfl⟩ rfl rfl rfl rfl rfl (by kernel_rfl) Try.func7 (by kernel_rfl)
    (of_decide_eq_true (by kernel_rfl)) (by unfold Func.isWrapper; first | (rw [if_pos (by decide +kernel)]; kernel_rfl) | (rw [if_neg (by decide +kernel)]; exact ⟨rfl, rfl⟩))
    (fun os started H enc _ => lifted os started H enc)

/-- THE STATEMENT. -/
theorem proved : Rows.MoneyPartsSaid := over
#print axioms proved
end Go.Proofs.Ytjobdibkpddemaa.moneyParts
