/- 'vendue/venduelaw01.MoneySplits' answers true at every input, and leaves its arguments as they were: the given statement Rows.MoneySplitsSaid. No condition. -/
import Derived.Test.YtjobdibkpddemaaRows
import Derived.Test.YtjobdibkpddemaaMem
import Derived.WalkKit
import Derived.ProofKit
import Derived.OpenShut
import Derived.Test.YtjobdibkpddemaaMoneyUse
namespace Go.Proofs.Ytjobdibkpddemaa.moneySplits
open Go.ChangeShapes Go.WideShapes Go.ChangeAt Go.RowKit
open Go.ChangeMaps (open_string shut_string)
set_option linter.unusedVariables false

theorem sum_parts (a : Int) (n : Nat) : ∀ i : Nat, ((List.range i).map (fun i : Nat => partZ a (n : Int) (i : Int))).sum = partSum a n i := by
  intro i
  induction i with
  | zero => rfl
  | succ i ih => rw [partsTo_succ, List.sum_append, ih]; simp [partSum]
theorem parts_whole (a : Int) (K : Nat) (a0 : 0 ≤ a) (a1 : a ≤ 9223372036854775807) (k1 : 1 ≤ K) : sumV (partsL a K) = a ∧ sumE (partsL a K) = 0 := by
  have e : (partsL a K).sum = a := by
    unfold partsL
    rw [sum_parts]
    exact partSum_all a K a0 k1
  have h : -9223372036854775808 ≤ (partsL a K).sum ∧ (partsL a K).sum ≤ 9223372036854775807 := by rw [e]; omega
  unfold sumV sumE
  rw [if_pos h, if_pos h, e]
  exact ⟨rfl, rfl⟩
theorem parts_at (a : Int) (K : Nat) (k0 : 1 ≤ K) (k1 : K ≤ 1000) (a0 : 0 ≤ a) : splitL a K = partsL a K ∧ splitE a K = 0 := by
  have h : ¬ (a < 0 ∨ (K : Int) < 1 ∨ 1000 < (K : Int)) := by omega
  unfold splitL splitE
  rw [if_neg h, if_neg h]
  exact ⟨rfl, rfl⟩
theorem part_falls (a : Int) (K : Nat) (i j : Nat) (h : i ≤ j) : partZ a K j ≤ partZ a K i ∧ partZ a K i - partZ a K j ≤ 1 := by
  unfold partZ
  split <;> split <;> omega

set_option maxHeartbeats 3200000 in
theorem walk (n m : Int) (w : World) (w0 : (Lit.int .i64 n).wf = true) (w1 : (Lit.int .i64 m).wf = true) :
    Calls Try.prog 4 #[.int .i64 n, .int .i64 m] w fun e w' => e = .returned (.bool true) ∧ Below w.heap.size w w' := by
  clear w0 w1
  have m0 := mask63 n
  have m1 := rem_twice m 1000 (by omega)
  go_enter Try.func4, Try.ntmps4
  go_wp2_with fail
  refine (awake_any _).mono ?_; rintro e w1 ⟨rfl, hb1⟩
  go_wp2_with fail
  generalize bits BinOp.and IntKind.i64 n 9223372036854775807 = a at *
  generalize (wrap64 (m.tmod 1000 + 1000)).tmod 1000 = t at *
  obtain ⟨J, hJ⟩ : ∃ J : Nat, t = J := ⟨t.toNat, by omega⟩
  subst hJ
  have j1 : J ≤ 999 := by omega
  obtain ⟨a0, a1⟩ := m0
  clear m1
  have PA := parts_at a (J + 1) (by omega) (by omega) a0
  have PW := Lib.hid (parts_whole a (J + 1) a0 a1 (by omega))
  have hlen := partsL_len a (J + 1)
  have P2 := Lib.hid (fun i (h : i < J + 1) => partsL_get a (J + 1) i h)
  have hIn : In64 (splitL a ((J + 1 : Nat) : Int)) := splitL_in a _ a1
  rw [PA.1] at hIn
  have PF := Lib.hid (part_falls a (J + 1))
  have PB := Lib.hid (fun i : Nat => part_bd a ((J + 1 : Nat) : Int) i a0 (by omega) (by omega))
  have e1 : (1 : Int) + (J : Int) = ((J + 1 : Nat) : Int) := by omega
  rw [e1]
  refine (split_any a ((J + 1 : Nat) : Int) _ (by omega) (by omega)).mono ?_; rintro e w2 ⟨p, cap, rfl, hr, hb2⟩
  rw [PA.1] at hr
  rw [PA.1, PA.2, hlen]
  have HL := Lib.hid hlen
  have B2 := below_step hb1 hb2
  clear PA hlen hb1 hb2 e1
  have z1 : (((J : Int) + 1 != (J : Int) + 1) = false) := by simp
  go_wp2_with fail
  have hs := sum_any p cap (partsL a (J + 1)) w2 hr hIn (by rw [HL.out]; omega)
  rw [HL.out] at hs
  refine hs.mono ?_; clear hs; rintro e w3 ⟨rfl, hb3⟩
  rw [PW.out.1, PW.out.2]
  have B3 := below_step B2 hb3
  have hr3 := row64_step hr hb3
  clear B2 hr hb3 hIn
  obtain ⟨b, o, rfl, hlt, hcells⟩ := hr3 (by rw [HL.out]; omega)
  rw [HL.out] at hcells
  have HC := Lib.hid (fun i (h : i < J + 1) => (hcells i h).trans (by rw [P2.out i h]))
  clear hcells hr3 P2
  go_wp2_with fail
  go_loopw [12] (fun i wr => ∃ k : Nat, i = .int .i64 ((k : Int) + 1) ∧ k ≤ J ∧ Below w3.heap.size w3 wr) (fun i _ => 1001 - (intOf i).toNat)
  case atStart => exact ⟨0, rfl, by omega, Below.refl _ _⟩
  case round =>
    obtain ⟨k, rfl, hk, hgr⟩ := hrel
    by_cases hl : k < J
    · have c1 := (hgr.cell (p := ⟨b, o + (k + 1), none⟩) hlt).trans (HC.out (k + 1) (by omega))
      have c2 := (hgr.cell (p := ⟨b, o + k, none⟩) hlt).trans (HC.out k (by omega))
      have hf := PF.out k (k + 1) (by omega)
      generalize partZ a ((J + 1 : Nat) : Int) ((k + 1 : Nat) : Int) = y at *
      generalize partZ a ((J + 1 : Nat) : Int) (k : Int) = x at *
      have hle : y ≤ x := hf.1
      have q1 : (k : Int) + 1 < (J : Int) + 1 := by omega
      have q2 : 0 ≤ (k : Int) + 1 := by omega
      clear hf
      go_wp2_with fail
      go_quiet (fail)
      go_wp2_with fail
      go_roundw
      case rel => exact ⟨k + 1, by go_num, by omega, below_drewN hgr _⟩
      case measure => simp [intOf]; omega
    · obtain rfl : k = J := by omega
      have c0 := (hgr.cell (p := ⟨b, o + 0, none⟩) hlt).trans (HC.out 0 (by omega))
      have cJ := (hgr.cell (p := ⟨b, o + k, none⟩) hlt).trans (HC.out k (by omega))
      have hf := PF.out 0 k (by omega)
      have hb0 := PB.out 0
      have hbJ := PB.out k
      generalize partZ a ((k + 1 : Nat) : Int) ((0 : Nat) : Int) = x at *
      generalize partZ a ((k + 1 : Nat) : Int) (k : Int) = y at *
      obtain ⟨f0, f1⟩ := hf
      obtain ⟨x0, x1⟩ := hb0
      obtain ⟨y0, y1⟩ := hbJ
      rw [Nat.add_zero] at c0
      have Z := Lib.hid (show (a == a) = true from beq_self_eq_true a)
      have HB := below_step B3 hgr
      clear PF PB HC hlt hl
      go_wp2_with fail
      go_quiet (fail)
      go_wp2_with fail
      go_ret
      exact ⟨rfl, below_drewN HB _⟩

theorem own : ownKnob Try.prog.godebug = none := by kernel_rfl
theorem laidOut : laidOutB Try.prog = true := by kernel_rfl

set_option maxRecDepth 100000 in
theorem lifted (os : Os) (started : os.Started) (H : Type) (enc : TypeId × Value → H) :
    ReturnsInHanded {} Try.checked os 4 .any (Rows.moneySplitsSpec.pre6 enc Try.prog Try.f4 Rows.moneySplitsRow.domain false) (Rows.moneySplitsSpec.post enc Try.prog Try.f4 false true false false) := by
  refine returnsInHanded_of_change (C := Try.checked) own started (by kernel_rfl) Try.func4
    (ChangeSpec.witness6 (enc := enc) (C := Try.checked) false ⟨#[], #[.int .i64 0, .int .i64 0], []⟩ 8 (by kernel_rfl) (by kernel_rfl) (by kernel_rfl) (by kernel_rfl)) ?_
  intro W base args ds gs before hval0 hW hcnd hsz
  have hval : ∀ (j : Nat) t v, Try.f4.params[j]? = some t → args[j]? = some v → Value.okWide Try.prog W .any base t v := hval0
  have hW' := hW
  obtain ⟨p, q, hA0, hV, rfl, hfz, hnd⟩ := hW
  have hA : DataW.TrodAll enc Try.prog W 0 (fun _ => true) true Try.f4.params.toList args.toList ds p := hA0
  rw [Try.params4] at hA hval
  obtain ⟨v0, vs0, d0, ds0, p0, q0, hargs, rfl, rfl, h0, r0⟩ := trodAll_cons hA
  obtain ⟨v1, vs1, d1, ds1, p1, q1, rfl, rfl, rfl, h1, r1⟩ := trodAll_cons r0
  obtain ⟨rfl, rfl, rfl⟩ := trodAll_nil r1
  obtain rfl : args = #[v0, v1] := by cases args; simp_all
  obtain ⟨rfl, rfl⟩ := trodVars_none hV
  obtain ⟨a0, rfl, rfl, rfl, w0⟩ := open_int Try.underlying2 (hval 0 2 v0 rfl rfl) h0
  obtain ⟨a1, rfl, rfl, rfl, w1⟩ := open_int Try.underlying3 (hval 1 3 v1 rfl rfl) h1
  refine (walk a0 a1 W w0 w1).mono fun e W' ⟨he, hg⟩ => ?_
  subst he
  exact ⟨_, rfl, post_law laidOut (by kernel_rfl) rfl Try.underlying4 hW' rfl rfl hg⟩

theorem over : Rows.moneySplitsRow.holds Try.pinned (OpenSpec.ofChange Rows.moneySplitsSpec) :=
  OpenClaim.holds_of_wide 4 Try.f4 rfl rfl rfl rfl rfl rfl rfl ⟨rfl, rfl, rfl, rfl, rfl⟩ rfl rfl rfl rfl rfl (by kernel_rfl) Try.func4 (by kernel_rfl)
    (of_decide_eq_true (by kernel_rfl)) (by unfold Func.isWrapper; first | (rw [if_pos (by decide +kernel)]; kernel_rfl) | (rw [if_neg (by decide +kernel)]; exact ⟨rfl, rfl⟩))
    (fun os started H enc _ => lifted os started H enc)

/-- THE STATEMENT. -/
theorem proved : Rows.MoneySplitsSaid := over
#print axioms proved
end Go.Proofs.Ytjobdibkpddemaa.moneySplits
