/- 'vendue/venduelaw15.DiceBelow' answers true at every input, and leaves its arguments as they were: the given statement Rows.DiceBelowSaid. The frame is the kit's shell; the walk is ours. -/
import Derived.Test.YtnmknpdbjolbpaaRows
import Derived.WalkKit
import Derived.ProofKit
import Derived.OpenShut
import Derived.Test.YtnmknpdbjolbpaaDice
import Derived.ShutString
namespace Go.Proofs.Ytnmknpdbjolbpaa.diceBelow
open Go.ChangeShapes Go.WideShapes Go.ChangeAt Go.RowKit
open Go.ChangeMaps (open_string shut_string)
set_option linter.unusedVariables false      -- a walk need not use every 'w<i>' (that an integer argument fits its kind)

theorem own : ownKnob Try.prog.godebug = none := by kernel_rfl

/-! ### STEP 1: THE WALK: the Go text returns true. 'Grown w w'': the world has at most new blocks (Derived/RowKit3.lean). Part the cases AHEAD of 'go_enter' where a test parts the walk; take each callee by a contract of your own. -/
theorem walk (a0 : Int) (a1 : Int) (w0 : (Lit.int .u64 a0).wf = true) (w1 : (Lit.int .i64 a1).wf = true) (w : World) :
    Calls Try.prog 7 #[.int .u64 a0, .int .i64 a1] w fun e w' => e = .returned (.bool true) ∧ Below w.heap.size w w' := by
  obtain ⟨h0, h0'⟩ := bd_u64 _ w0
  obtain ⟨h1, h1'⟩ := bd_i64 _ w1
  clear w0 w1
  have hk := mask_bd a1
  have hdz : drawZ a0 1 2 1 = 0 := by
    unfold drawZ
    rw [if_neg (by omega)]
    have := below_bd (mixZ (stepZ (seatZ a0 1 2))) 1 (mixZ_bd _) (by omega)
    omega
  have Hdz := Lib.hid hdz
  clear hdz
  go_enter Try.func7, Try.ntmps7
  go_wp2_with fail
  refine (awake_any _).mono ?_; rintro e w' ⟨rfl, rfl⟩
  go_wp2_with fail
  refine (new_any _ _).mono ?_; rintro e w' ⟨rfl, rfl⟩
  go_wp2_with fail
  refine (new_any _ _).mono ?_; rintro e w' ⟨rfl, rfl⟩
  go_wp2_with fail
  obtain ⟨W1, hW1⟩ : ∃ W1, W1 = ((w.alloc (.cells #[.int .u64 11400714819323198485] 31)).alloc (.cells #[.int .u64 a0] 31)).alloc (.cells #[.int .u64 a0] 31) := ⟨_, rfl⟩
  have hg : Below w.heap.size w W1 := by rw [hW1]; exact (((Below.refl _ _).alloc (Nat.le_refl _) _).alloc (by simp) _).alloc (by simp; omega) _
  have hA : At W1 (w.heap.size + 1) 31 #[.int .u64 a0] := by rw [hW1]; have h := (At.new (w.alloc (.cells #[.int .u64 11400714819323198485] 31)) 31 #[.int .u64 a0]).alloc (.cells #[.int .u64 a0] 31); simpa using h
  have hB : At W1 (w.heap.size + 1 + 1) 31 #[.int .u64 a0] := by rw [hW1]; have h := At.new ((w.alloc (.cells #[.int .u64 11400714819323198485] 31)).alloc (.cells #[.int .u64 a0] 31)) 31 #[.int .u64 a0]; simpa using h
  rw [← hW1]
  clear hW1
  obtain ⟨K, hK⟩ : ∃ K, K = 1 + bits BinOp.and IntKind.i64 a1 2147483647 := ⟨_, rfl⟩
  rw [← hK]
  have hK0 : 1 ≤ K := by omega
  have hK1 : K ≤ 2147483648 := by omega
  clear hK hk
  go_loopw [9, 10] (fun i x wr => ∃ (s k : Int), i = .int .i64 k ∧ 0 ≤ k ∧ k ≤ 10 ∧ At wr (w.heap.size + 1) 31 #[.int .u64 s] ∧ At wr (w.heap.size + 1 + 1) 31 #[.int .u64 s] ∧ Below w.heap.size w wr) (fun i _ _ => (21 - intOf i).toNat)
  case atStart => exact ⟨a0, 0, rfl, by omega, by omega, hA, hB, hg⟩
  case round =>
    obtain ⟨s, k, rfl, k0, k1, hAr, hBr, hgr⟩ := hrel
    clear hA hB hg
    have hb := below_bd (mixZ (stepZ s)) K (mixZ_bd _) ⟨hK0, hK1⟩
    obtain ⟨hb0, hb1⟩ := hb
    have hb2 : ¬ belowZ (mixZ (stepZ s)) K < 0 := by omega
    have hb3 : ¬ K ≤ belowZ (mixZ (stepZ s)) K := by omega
    by_cases hlt : k < 10
    · go_wp2_with fail
      refine (below_in _ s K _ hK0 hK1 hAr).mono ?_; rintro e w' ⟨rfl, rfl⟩
      go_wp2_with fail
      refine (below_in _ s K _ hK0 hK1 (hBr.far (by simp) _)).mono ?_; rintro e w' ⟨rfl, rfl⟩
      go_wp2_with fail
      go_roundw
      case rel => exact ⟨_, k + 1, by go_num, by omega, by omega, (hAr.put1 _).far (by simp) _, (hBr.far (by simp) _).put1 _, (hgr.setCell (by simp) _).setCell (by simp; omega) _⟩
      case measure => simp [intOf]; omega
    · clear hb0 hb1 hb2 hb3
      have q0 : belowZ (mixZ (stepZ s)) 1 = 0 := by
        have := below_bd (mixZ (stepZ s)) 1 (mixZ_bd _) (by omega)
        omega
      have Q0 := Lib.hid q0
      clear q0
      go_wp2_with fail
      refine (below_in _ s 1 _ (by omega) (by omega) hAr).mono ?_; rintro e w' ⟨rfl, rfl⟩
      rw [Q0.out]
      go_wp2_with fail
      refine (below_in _ s 1 _ (by omega) (by omega) (hBr.far (by simp) _)).mono ?_; rintro e w' ⟨rfl, rfl⟩
      rw [Q0.out]
      go_wp2_with fail
      refine (next_any _ (stepZ s) _ ((hAr.put1 _).far (by simp) _)).mono ?_; rintro e w' ⟨rfl, rfl⟩
      go_wp2_with fail
      refine (next_any _ (stepZ s) _ (((hBr.far (by simp) _).put1 _).far (by simp) _)).mono ?_; rintro e w' ⟨rfl, rfl⟩
      go_wp2_with fail
      refine (draw_any a0 1 2 1 _ h0 h0').mono ?_; rintro e w' ⟨rfl, hb⟩
      rw [Hdz.out]
      go_wp2_with fail
      go_ret
      refine ⟨rfl, Below.trans ((((hgr.setCell (by simp) _).setCell (by simp; omega) _).setCell (by simp) _).setCell (by simp; omega) _) (hb.mono ?_)⟩
      have := hAr.lt
      simp
      omega

/-! ### THE ROW's STEP: WRITTEN OUT: LEAVE IT -/
set_option maxRecDepth 100000 in
theorem lifted (os : Os) (started : os.Started) (H : Type) (enc : TypeId × Value → H) :
    ReturnsInHanded {} Try.checked os 7 .any (Rows.diceBelowSpec.pre6 enc Try.prog Try.f7 Rows.diceBelowRow.domain false) (Rows.diceBelowSpec.post enc Try.prog Try.f7 false true false false) := by
  refine returnsInHanded_of_change (C := Try.checked) own started (by kernel_rfl) Try.func7
    (ChangeSpec.witness6 (enc := enc) (C := Try.checked) false ⟨#[], #[.int .u64 0, .int .i64 0], []⟩ 8 (by kernel_rfl) (by kernel_rfl) (by kernel_rfl) (by kernel_rfl)) ?_
  intro W base args ds gs before hval0 hW hcnd _
  have hval : ∀ (j : Nat) t v, Try.f7.params[j]? = some t → args[j]? = some v → Value.okWide Try.prog W .any base t v := hval0
  have hW' := hW
  obtain ⟨p, q, hA0, hV, rfl, hfz, hnd⟩ := hW
  have hA : DataW.TrodAll enc Try.prog W 0 (fun _ => true) true Try.f7.params.toList args.toList ds p := hA0
  rw [Try.params7] at hA hval
  obtain ⟨v0, vs0, d0, ds0, p0, q0, hargs, rfl, rfl, h0, r0⟩ := trodAll_cons hA
  obtain ⟨v1, vs1, d1, ds1, p1, q1, rfl, rfl, rfl, h1, r1⟩ := trodAll_cons r0
  obtain ⟨rfl, rfl, rfl⟩ := trodAll_nil r1
  obtain rfl : args = #[v0, v1] := by cases args; simp_all
  obtain ⟨rfl, rfl⟩ := trodVars_none hV
  obtain ⟨a0, rfl, rfl, rfl, w0⟩ := open_int Try.underlying22 (hval 0 22 v0 rfl rfl) h0
  obtain ⟨a1, rfl, rfl, rfl, w1⟩ := open_int Try.underlying3 (hval 1 3 v1 rfl rfl) h1
  clear hA0 hval0
  simp only [List.append_nil] at hW'
  refine (walk a0 a1 w0 w1 W).mono fun e W' ⟨he, hg⟩ => ?_
  subst he
  exact ⟨_, rfl, post_kept (pa := []) (pv := []) hW' (fun _ _ _ => (trodAll_cons_mk (shut_bool Try.underlying4 _) trodAll_mk0)) (fun sp _ => (trodAll_cons_mk (shut_int Try.underlying22 w0) (trodAll_cons_mk (shut_int Try.underlying3 w1) trodAll_mk0))) (fun _ _ => rfl) rfl hg⟩

theorem over : Rows.diceBelowRow.holds Try.pinned (OpenSpec.ofChange Rows.diceBelowSpec) :=
  OpenClaim.holds_of_wide 7 Try.f7 rfl rfl rfl rfl rfl rfl rfl ⟨rfl, rfl, rfl, rfl, rfl⟩ rfl rfl rfl rfl rfl (by kernel_rfl) Try.func7 (by kernel_rfl)
    (of_decide_eq_true (by kernel_rfl)) (by unfold Func.isWrapper; first | (rw [if_pos (by decide +kernel)]; kernel_rfl) | (rw [if_neg (by decide +kernel)]; exact ⟨rfl, rfl⟩))
    (fun os started H enc _ => lifted os started H enc)

/-- ████ THE STATEMENT ████ -/
theorem proved : Rows.DiceBelowSaid :=
  over
#print axioms proved
end Go.Proofs.Ytnmknpdbjolbpaa.diceBelow
