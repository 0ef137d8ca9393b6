/- 'vendue/venduelaw15.DiceFar' answers true at every input, and leaves its arguments as they were: the given statement Rows.DiceFarSaid. The frame is the kit's shell; the walk is ours. -/
import Derived.Test.YtnmknpdbjolbpaaRows
import Derived.WalkKit
import Derived.ProofKit
import Derived.OpenShut
import Derived.Test.YtnmknpdbjolbpaaDice
import Derived.ShutString
namespace Go.Proofs.Ytnmknpdbjolbpaa.diceFar
open Go.ChangeShapes Go.WideShapes Go.ChangeAt Go.RowKit
open Go.ChangeMaps (open_string shut_string)
set_option linter.unusedVariables false      -- a walk need not use every 'w<i>' (that an integer argument fits its kind)

theorem own : ownKnob Try.prog.godebug = none := by kernel_rfl

/-! ### STEP 1: THE WALK: the Go text returns true. 'Grown w w'': the world has at most new blocks (Derived/RowKit3.lean). Part the cases AHEAD of 'go_enter' where a test parts the walk; take each callee by a contract of your own. -/
theorem walk (a0 : Int) (a1 : Int) (a2 : Int) (w0 : (Lit.int .u64 a0).wf = true) (w1 : (Lit.int .u64 a1).wf = true) (w2 : (Lit.int .i64 a2).wf = true) (w : World) :
    Calls Try.prog 4 #[.int .u64 a0, .int .u64 a1, .int .i64 a2] w fun e w' => e = .returned (.bool true) ∧ Below w.heap.size w w' := by
  obtain ⟨h0, h0'⟩ := bd_u64 _ w0
  obtain ⟨h1, h1'⟩ := bd_u64 _ w1
  obtain ⟨h2, h2'⟩ := bd_i64 _ w2
  clear w0 w1 w2
  have he := far_eq a0 a1 ⟨h0, h0'⟩ ⟨h1, h1'⟩
  go_enter Try.func4, Try.ntmps4
  go_wp2_with fail
  refine (awake_any _).mono ?_; rintro e w' ⟨rfl, rfl⟩
  go_wp2_with fail
  refine (new_any _ _).mono ?_; rintro e w' ⟨rfl, rfl⟩
  go_wp2_with fail
  obtain ⟨W1, hW1⟩ : ∃ W1, W1 = (w.alloc (.cells #[.int .u64 11400714819323198485] 31)).alloc (.cells #[.int .u64 a0] 31) := ⟨_, rfl⟩
  have hg : Below w.heap.size w W1 := by rw [hW1]; exact ((Below.refl _ _).alloc (Nat.le_refl _) _).alloc (by simp) _
  have hA : At W1 (w.heap.size + 1) 31 #[.int .u64 a0] := by rw [hW1]; have h := At.new (w.alloc (.cells #[.int .u64 11400714819323198485] 31)) 31 #[.int .u64 a0]; simpa using h
  rw [← hW1]
  clear hW1
  have hK : 0 ≤ (wrap64 (a2.tmod 21 + 21)).tmod 21 ∧ (wrap64 (a2.tmod 21 + 21)).tmod 21 ≤ 20 := rem_twice a2 21 (by omega)
  generalize (wrap64 (a2.tmod 21 + 21)).tmod 21 = K at *
  obtain ⟨hK0, hK1⟩ := hK
  go_loopw [10, 11] (fun t i wr => ∃ (s k : Int), t = .int .u64 s ∧ i = .int .i64 k ∧ 0 ≤ k ∧ k ≤ 21 ∧ At wr (w.heap.size + 1) 31 #[.int .u64 s] ∧ Below w.heap.size w wr) (fun _ i _ => (21 - intOf i).toNat)
  case atStart => exact ⟨a0, 0, rfl, rfl, by omega, by omega, hA, hg⟩
  case round =>
    obtain ⟨s, k, rfl, rfl, k0, k1, hAr, hgr⟩ := hrel
    clear hA hg
    by_cases hlt : k < K
    · go_wp2_with fail
      refine (next_any _ s _ hAr).mono ?_; rintro e w' ⟨rfl, rfl⟩
      go_wp2_with fail
      go_roundw
      case rel => exact ⟨_, k + 1, rfl, by go_num, by omega, by omega, hAr.put1 _, hgr.setCell (by simp) _⟩
      case measure => simp [intOf]; omega
    · go_wp2_with fail
      refine (new_any _ _).mono ?_; rintro e w' ⟨rfl, rfl⟩
      go_wp2_with fail
      refine (new_any _ _).mono ?_; rintro e w' ⟨rfl, rfl⟩
      go_wp2_with fail
      refine (new_any _ _).mono ?_; rintro e w' ⟨rfl, rfl⟩
      go_wp2_with fail
      have hlt2 := hAr.lt
      obtain ⟨W2, hW2⟩ : ∃ W2, W2 = ((wr.alloc (.cells #[.int .u64 s] 31)).alloc (.cells #[.int .u64 a0] 31)).alloc (.cells #[.int .u64 a1] 31) := ⟨_, rfl⟩
      have hg2 : Below w.heap.size w W2 := by rw [hW2]; exact ((hgr.alloc (by omega) _).alloc (by simp; omega) _).alloc (by simp; omega) _
      have x2 : At W2 (w.heap.size + 1) 31 #[.int .u64 s] := by rw [hW2]; exact ((hAr.alloc _).alloc _).alloc _
      have y2 : At W2 wr.heap.size 31 #[.int .u64 s] := by rw [hW2]; exact ((At.new _ _ _).alloc _).alloc _
      have u2 : At W2 (wr.heap.size + 1) 31 #[.int .u64 a0] := by rw [hW2]; have h := (At.new (wr.alloc (.cells #[.int .u64 s] 31)) 31 #[.int .u64 a0]).alloc (.cells #[.int .u64 a1] 31); simpa using h
      have v2 : At W2 (wr.heap.size + 1 + 1) 31 #[.int .u64 a1] := by rw [hW2]; have h := At.new ((wr.alloc (.cells #[.int .u64 s] 31)).alloc (.cells #[.int .u64 a0] 31)) 31 #[.int .u64 a1]; simpa using h
      rw [← hW2]
      clear hW2 hAr hgr
      refine (next_any _ s _ x2).mono ?_; rintro e w' ⟨rfl, rfl⟩
      go_wp2_with fail
      refine (next_any _ s _ (y2.far (by simp; omega) _)).mono ?_; rintro e w' ⟨rfl, rfl⟩
      go_wp2_with fail
      refine (next_any _ a0 _ ((u2.far (by simp; omega) _).far (by simp) _)).mono ?_; rintro e w' ⟨rfl, rfl⟩
      go_wp2_with fail
      refine (next_any _ a1 _ (((v2.far (by simp; omega) _).far (by simp; omega) _).far (by simp) _)).mono ?_; rintro e w' ⟨rfl, rfl⟩
      go_wp2_with fail
      go_ret
      exact ⟨rfl, (((hg2.setCell (by simp) _).setCell (by simp; omega) _).setCell (by simp; omega) _).setCell (by simp; omega) _⟩

/-! ### THE ROW's STEP: WRITTEN OUT: LEAVE IT -/
set_option maxRecDepth 100000 in
theorem lifted (os : Os) (started : os.Started) (H : Type) (enc : TypeId × Value → H) :
    ReturnsInHanded {} Try.checked os 4 .any (Rows.diceFarSpec.pre6 enc Try.prog Try.f4 Rows.diceFarRow.domain false) (Rows.diceFarSpec.post enc Try.prog Try.f4 false true false false) := by
  refine returnsInHanded_of_change (C := Try.checked) own started (by kernel_rfl) Try.func4
    (ChangeSpec.witness6 (enc := enc) (C := Try.checked) false ⟨#[], #[.int .u64 0, .int .u64 0, .int .i64 0], []⟩ 8 (by kernel_rfl) (by kernel_rfl) (by kernel_rfl) (by kernel_rfl)) ?_
  intro W base args ds gs before hval0 hW hcnd _
  have hval : ∀ (j : Nat) t v, Try.f4.params[j]? = some t → args[j]? = some v → Value.okWide Try.prog W .any base t v := hval0
  have hW' := hW
  obtain ⟨p, q, hA0, hV, rfl, hfz, hnd⟩ := hW
  have hA : DataW.TrodAll enc Try.prog W 0 (fun _ => true) true Try.f4.params.toList args.toList ds p := hA0
  rw [Try.params4] at hA hval
  obtain ⟨v0, vs0, d0, ds0, p0, q0, hargs, rfl, rfl, h0, r0⟩ := trodAll_cons hA
  obtain ⟨v1, vs1, d1, ds1, p1, q1, rfl, rfl, rfl, h1, r1⟩ := trodAll_cons r0
  obtain ⟨v2, vs2, d2, ds2, p2, q2, rfl, rfl, rfl, h2, r2⟩ := trodAll_cons r1
  obtain ⟨rfl, rfl, rfl⟩ := trodAll_nil r2
  obtain rfl : args = #[v0, v1, v2] := by cases args; simp_all
  obtain ⟨rfl, rfl⟩ := trodVars_none hV
  obtain ⟨a0, rfl, rfl, rfl, w0⟩ := open_int Try.underlying22 (hval 0 22 v0 rfl rfl) h0
  obtain ⟨a1, rfl, rfl, rfl, w1⟩ := open_int Try.underlying22 (hval 1 22 v1 rfl rfl) h1
  obtain ⟨a2, rfl, rfl, rfl, w2⟩ := open_int Try.underlying3 (hval 2 3 v2 rfl rfl) h2
  clear hA0 hval0
  simp only [List.append_nil] at hW'
  refine (walk a0 a1 a2 w0 w1 w2 W).mono fun e W' ⟨he, hg⟩ => ?_
  subst he
  exact ⟨_, rfl, post_kept (pa := []) (pv := []) hW' (fun _ _ _ => (trodAll_cons_mk (shut_bool Try.underlying4 _) trodAll_mk0)) (fun sp _ => (trodAll_cons_mk (shut_int Try.underlying22 w0) (trodAll_cons_mk (shut_int Try.underlying22 w1) (trodAll_cons_mk (shut_int Try.underlying3 w2) trodAll_mk0)))) (fun _ _ => rfl) rfl hg⟩

theorem over : Rows.diceFarRow.holds Try.pinned (OpenSpec.ofChange Rows.diceFarSpec) :=
  OpenClaim.holds_of_wide 4 Try.f4 rfl rfl rfl rfl rfl rfl rfl ⟨rfl, rfl, rfl, rfl, rfl⟩ rfl rfl rfl rfl rfl (by kernel_rfl) Try.func4 (by kernel_rfl)
    (of_decide_eq_true (by kernel_rfl)) (by unfold Func.isWrapper; first | (rw [if_pos (by decide +kernel)]; kernel_rfl) | (rw [if_neg (by decide +kernel)]; exact ⟨rfl, rfl⟩))
    (fun os started H enc _ => lifted os started H enc)

/-- ████ THE STATEMENT ████ -/
theorem proved : Rows.DiceFarSaid :=
  over
#print axioms proved
end Go.Proofs.Ytnmknpdbjolbpaa.diceFar
