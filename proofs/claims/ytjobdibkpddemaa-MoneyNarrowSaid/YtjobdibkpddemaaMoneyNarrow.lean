/- 'vendue/venduelaw01.MoneyNarrow' answers true at every input, and leaves its arguments as they were: the given statement Rows.MoneyNarrowSaid. No condition. -/
import Derived.Test.YtjobdibkpddemaaRows
import Derived.Test.YtjobdibkpddemaaMem
import Derived.WalkKit
import Derived.ProofKit
import Derived.OpenShut
import Derived.Test.YtjobdibkpddemaaMoneyUse
namespace Go.Proofs.Ytjobdibkpddemaa.moneyNarrow
open Go.ChangeShapes Go.WideShapes Go.ChangeAt Go.RowKit
open Go.ChangeMaps (open_string shut_string)
set_option linter.unusedVariables false

theorem nar_at (a : Int) (K : Nat) (h : K ≤ 63) : narV a ((K : Int) + 1) = narrowZ a K ∧ narB a ((K : Int) + 1) = (narrowZ a K == a) := by
  have e1 : ((K : Int) + 1).toNat - 1 = K := by omega
  have hn : ¬ ((K : Int) + 1 < 1 ∨ 64 < (K : Int) + 1) := by omega
  refine ⟨by unfold narV; rw [if_neg hn, e1], ?_⟩
  unfold narB
  rw [e1, Bool.eq_iff_iff, decide_eq_true_eq, beq_iff_eq]
  exact ⟨fun h => h.2, fun h => ⟨hn, h⟩⟩
theorem nar_again (a : Int) (K : Nat) : narrowZ (narrowZ a K) K = narrowZ a K := (narrow_fits _ K).2 (narrow_bd a K)

set_option maxHeartbeats 1600000 in
theorem walk (a n : Int) (w : World) (w0 : (Lit.int .i64 a).wf = true) (w1 : (Lit.int .i64 n).wf = true) :
    Calls Try.prog 9 #[.int .i64 a, .int .i64 n] w fun e w' => e = .returned (.bool true) ∧ Below w.heap.size w w' := by
  obtain ⟨a0, a1⟩ := bd_i64 _ w0
  clear w0 w1
  have m := rem_twice n 64 (by omega)
  go_enter Try.func9, Try.ntmps9
  go_wp2_with fail
  refine (awake_any _).mono ?_; rintro e w1 ⟨rfl, hb1⟩
  go_wp2_with fail
  generalize (wrap64 (n.tmod 64 + 64)).tmod 64 = t at *
  obtain ⟨K, hK⟩ : ∃ K : Nat, t = K := ⟨t.toNat, by omega⟩
  subst hK
  have k1 : K ≤ 63 := by omega
  rw [Int.add_comm 1 (K : Int)]
  clear m
  have N1 := Lib.hid (nar_at a K k1)
  have N2 := Lib.hid (nar_at (narrowZ a K) K k1)
  have N3 := Lib.hid (nar_again a K)
  have nb := narrow_bd a K
  refine (narrow_any a ((K : Int) + 1) _ a0 a1).mono ?_; rintro e w2 ⟨rfl, rfl⟩
  rw [N1.out.1, N1.out.2]
  by_cases h63 : K = 63
  · subst h63
    have N4 := Lib.hid (narrow_all a a0 a1)
    rw [N4.out] at N2 ⊢
    have Z := Lib.hid (show (a == a) = true from beq_self_eq_true a)
    clear nb N1 N3
    rw [Z.out]
    go_wp2_with fail
    refine (narrow_any a 64 _ a0 a1).mono ?_; rintro e w2 ⟨rfl, rfl⟩
    have N5 := N2.out
    rw [show ((63 : Nat) : Int) + 1 = 64 from rfl, N4.out, Z.out] at N5
    rw [N5.1, N5.2]
    clear N5 
    go_wp2_with fail
    go_ret
    exact ⟨rfl, hb1⟩
  · have p0 := pow_pos2 K
    have p1 := pow_le62 K (by omega)
    have hne : (((K : Int) + 1 == 64) = false) := beq_eq_false_iff_ne.2 (by omega)
    have k2 : K ≤ 62 := by omega
    obtain ⟨nb0, nb1⟩ := nb
    clear h63
    have F := narrow_fits a K
    generalize narrowZ a K = x at *
    by_cases hf : x = a
    · subst hf
      obtain ⟨f0, f1⟩ := F.1 rfl
      have Z := Lib.hid (show (x == x) = true from beq_self_eq_true x)
      clear F
      rw [Z.out]
      go_wp2_with fail
      refine (narrow_any x ((K : Int) + 1) _ (by omega) (by omega)).mono ?_; rintro e w2 ⟨rfl, rfl⟩
      rw [N2.out.1, N2.out.2, N3.out, Z.out]
      go_wp2_with fail
      go_ret
      exact ⟨rfl, hb1⟩
    · have hn : ¬ (-2 ^ K ≤ a ∧ a < 2 ^ K) := fun h => hf (F.2 h)
      have Z := Lib.hid (show (x == a) = false from beq_eq_false_iff_ne.2 hf)
      have Z2 := Lib.hid (show (x == x) = true from beq_self_eq_true x)
      rw [Z.out]
      clear F hf
      by_cases h5 : -2 ^ K ≤ a
      · have h6 : 2 ^ K ≤ a := by omega
        have h7 : decide (a < 2 ^ K) = false := decide_eq_false (by omega)
        clear hn
        go_wp2_with fail
        refine (narrow_any x ((K : Int) + 1) _ (by omega) (by omega)).mono ?_; rintro e w2 ⟨rfl, rfl⟩
        rw [N2.out.1, N2.out.2, N3.out, Z2.out]
        go_wp2_with fail
        go_ret
        exact ⟨rfl, hb1⟩
      · have h6 : a < -2 ^ K := by omega
        have h7 : decide (-2 ^ K ≤ a) = false := decide_eq_false (by omega)
        clear hn h5
        go_wp2_with fail
        refine (narrow_any x ((K : Int) + 1) _ (by omega) (by omega)).mono ?_; rintro e w2 ⟨rfl, rfl⟩
        rw [N2.out.1, N2.out.2, N3.out, Z2.out]
        go_wp2_with fail
        go_ret
        exact ⟨rfl, hb1⟩

theorem own : ownKnob Try.prog.godebug = none := by kernel_rfl
theorem laidOut : laidOutB Try.prog = true := by kernel_rfl

set_option maxRecDepth 100000 in
theorem lifted (os : Os) (started : os.Started) (H : Type) (enc : TypeId × Value → H) :
    ReturnsInHanded {} Try.checked os 9 .any (Rows.moneyNarrowSpec.pre6 enc Try.prog Try.f9 Rows.moneyNarrowRow.domain false) (Rows.moneyNarrowSpec.post enc Try.prog Try.f9 false true false false) := by
  refine returnsInHanded_of_change (C := Try.checked) own started (by kernel_rfl) Try.func9
    (ChangeSpec.witness6 (enc := enc) (C := Try.checked) false ⟨#[], #[.int .i64 0, .int .i64 0], []⟩ 8 (by kernel_rfl) (by kernel_rfl) (by kernel_rfl) (by kernel_rfl)) ?_
  intro W base args ds gs before hval0 hW hcnd hsz
  have hval : ∀ (j : Nat) t v, Try.f9.params[j]? = some t → args[j]? = some v → Value.okWide Try.prog W .any base t v := hval0
  have hW' := hW
  obtain ⟨p, q, hA0, hV, rfl, hfz, hnd⟩ := hW
  have hA : DataW.TrodAll enc Try.prog W 0 (fun _ => true) true Try.f9.params.toList args.toList ds p := hA0
  rw [Try.params9] at hA hval
  obtain ⟨v0, vs0, d0, ds0, p0, q0, hargs, rfl, rfl, h0, r0⟩ := trodAll_cons hA
  obtain ⟨v1, vs1, d1, ds1, p1, q1, rfl, rfl, rfl, h1, r1⟩ := trodAll_cons r0
  obtain ⟨rfl, rfl, rfl⟩ := trodAll_nil r1
  obtain rfl : args = #[v0, v1] := by cases args; simp_all
  obtain ⟨rfl, rfl⟩ := trodVars_none hV
  obtain ⟨a0, rfl, rfl, rfl, w0⟩ := open_int Try.underlying2 (hval 0 2 v0 rfl rfl) h0
  obtain ⟨a1, rfl, rfl, rfl, w1⟩ := open_int Try.underlying3 (hval 1 3 v1 rfl rfl) h1
  refine (walk a0 a1 W w0 w1).mono fun e W' ⟨he, hg⟩ => ?_
  subst he
  exact ⟨_, rfl, post_law laidOut (by kernel_rfl) rfl Try.underlying4 hW' rfl rfl hg⟩

theorem over : Rows.moneyNarrowRow.holds Try.pinned (OpenSpec.ofChange Rows.moneyNarrowSpec) :=
  OpenClaim.holds_of_wide 9 Try.f9 rfl rfl rfl rfl rfl rfl rfl ⟨rfl, rfl, rfl, rfl, rfl⟩ rfl rfl rfl rfl rfl (by kernel_rfl) Try.func9 (by kernel_rfl)
    (of_decide_eq_true (by kernel_rfl)) (by unfold Func.isWrapper; first | (rw [if_pos (by decide +kernel)]; kernel_rfl) | (rw [if_neg (by decide +kernel)]; exact ⟨rfl, rfl⟩))
    (fun os started H enc _ => lifted os started H enc)

/-- THE STATEMENT. -/
theorem proved : Rows.MoneyNarrowSaid := over
#print axioms proved
end Go.Proofs.Ytjobdibkpddemaa.moneyNarrow
