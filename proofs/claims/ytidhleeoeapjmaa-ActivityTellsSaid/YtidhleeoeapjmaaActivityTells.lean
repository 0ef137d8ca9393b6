/- 'vendue/venduelaw17.ActivityTells' answers true at every input, and leaves its arguments as they were: the given statement Rows.ActivityTellsSaid. No condition. -/
import Derived.Test.YtidhleeoeapjmaaRows
import Derived.Test.YtidhleeoeapjmaaMem
import Derived.WalkKit
import Derived.ProofKit
import Derived.OpenShut
import Derived.Deep.RegionHeld3
import Derived.Deep.DeepCutAuto
import Derived.Test.YtidhleeoeapjmaaActTells
import Derived.Test.YtidhleeoeapjmaaOpen
namespace Go.Proofs.Ytidhleeoeapjmaa.activityTells
open Go.ChangeShapes Go.WideShapes Go.ChangeAt Go.RowKit
open Go.ChangeMaps (open_string shut_string)
set_option linter.unusedVariables false

section
variable {H : Type} {enc : TypeId × Value → H} {P : Program} {W : World}
theorem open_part {r : Reach} {b0 : Nat} {t t0 t1 : TypeId} {v : Value} {d : DataW H} {p : List MemPlace} {f0 f1 : Field}
    (hs : P.underlying t = some (.struct #[f0, f1])) (hone : Go.Deep.oneCellFields P #[f0, f1] = true) (hC : P.cellsOf t = 2)
    (e0 : f0.type = t0) (e1 : f1.type = t1) (h0 : P.underlying t0 = some (.int .i64)) (h1 : P.underlying t1 = some (.int .i64))
    (hv : Value.okWide P W r b0 t v) (h : DataW.Trod enc P W 0 (fun _ => true) true t v d p) : ∃ a b : Int, v = .agg #[.int .i64 a, .int .i64 b] := by
  obtain ⟨c0, c1, y0, y1, m, rfl, _, _, k0, k1⟩ := Go.Joins.open_agg2 hs hone hC hv h
  rw [e0] at k0
  rw [e1] at k1
  obtain ⟨a, q0, _, w0⟩ := DataW.trod_int h0 k0
  obtain ⟨b, q1, _, w1⟩ := DataW.trod_int h1 k1
  simp at q0 q1
  subst q0 q1
  exact ⟨a, b, rfl⟩
theorem open_arr2 {r : Reach} {b0 : Nat} {t e : TypeId} {v : Value} {d : DataW H} {p : List MemPlace} (ht : P.underlying t = some (.array 2 e)) (he : P.underlying e = some (.int .i64)) (hc : P.cellsOf e = 1) (hn : P.cellsOf t = 2)
    (hv : Value.okWide P W r b0 t v) (h : DataW.Trod enc P W 0 (fun _ => true) true t v d p) : ∃ q0 q1 : Int, v = .agg #[.int .i64 q0, .int .i64 q1] ∧ (Lit.int .i64 q0).wf = true ∧ (Lit.int .i64 q1).wf = true := by
  have hv' := hv
  simp only [Value.okWide, ht] at hv'
  obtain ⟨⟨cs⟩, rfl, hsz, _⟩ := hv'
  rw [hn] at hsz
  match cs, hsz with
  | [c0, c1], _ =>
    obtain ⟨fuel, hf⟩ := h
    obtain ⟨xs, m, _, _, _, hlen, hx⟩ := DataW.trod_array ht hf
    match xs, hlen with
    | [x0, x1], _ =>
      have g0 := hx 0 (by omega)
      have g1 := hx 1 (by omega)
      rw [hc] at g0 g1
      simp [Value.cells] at g0 g1
      obtain ⟨n0, e0, _, w0⟩ := DataW.trod_int he g0
      obtain ⟨n1, e1, _, w1⟩ := DataW.trod_int he g1
      simp at e0 e1
      subst e0 e1
      exact ⟨n0, n1, rfl, w0, w1⟩
end

set_option maxRecDepth 100000 in
set_option maxHeartbeats 8000000 in
theorem walk (s0 s1 q0 q1 p a u t : Int) (w : World) (hq0 : (Lit.int .i64 q0).wf = true) (hq1 : (Lit.int .i64 q1).wf = true) (hu : (Lit.int .i64 u).wf = true) :
    Calls Try.prog 8 #[.agg #[.int .i64 s0, .int .i64 s1], .agg #[.int .i64 q0, .int .i64 q1], .agg #[.int .i64 p, .int .i64 a, .int .i64 u, .int .i64 t]] w fun e w' => e = .returned (.bool true) ∧ Below w.heap.size w w' := by
  obtain ⟨u0, u1⟩ := bd_i64 _ hu
  obtain ⟨_, q0m⟩ := bd_i64 _ hq0
  clear hq0 hq1 hu
  have bA := ptsZ_bd a
  obtain ⟨P, hP'⟩ : ∃ P, P = ptsZ p := ⟨_, rfl⟩
  obtain ⟨T, hT'⟩ : ∃ T, T = waitZ t := ⟨_, rfl⟩
  obtain ⟨A, hA'⟩ : ∃ A, A = ptsZ a := ⟨_, rfl⟩
  obtain ⟨U, hU'⟩ : ∃ U, U = useZ u := ⟨_, rfl⟩
  rw [← hA'] at bA
  have A1 : A ≤ 9223372036854775807 := by omega
  have hP := Lib.hid hP'.symm
  have hT := Lib.hid hT'.symm
  have hA := Lib.hid hA'.symm
  have hU := Lib.hid hU'.symm
  clear hP' hT' hA' hU' bA
  go_enter Try.func8, Try.ntmps8
  go_wp2_with fail
  refine (awake_any _).mono ?_; rintro e W5 ⟨rfl, hb1⟩
  have S0 := (((At.new w 26 #[.int .i64 s0, .int .i64 s1]).alloc (.cells #[.int .i64 q0, .int .i64 q1] 39)).alloc (.cells #[.int .i64 p, .int .i64 a, .int .i64 u, .int .i64 t] 23)).step hb1
  have S1 := ((At.new (w.alloc (.cells #[.int .i64 s0, .int .i64 s1] 26)) 39 #[.int .i64 q0, .int .i64 q1]).alloc (.cells #[.int .i64 p, .int .i64 a, .int .i64 u, .int .i64 t] 23)).step hb1
  have S2 := (At.new ((w.alloc (.cells #[.int .i64 s0, .int .i64 s1] 26)).alloc (.cells #[.int .i64 q0, .int .i64 q1] 39)) 23 #[.int .i64 p, .int .i64 a, .int .i64 u, .int .i64 t]).step hb1
  simp only [World.size_alloc] at S1 S2
  have B5 := below_step ((((Below.refl _ _).alloc (Nat.le_refl _) _).alloc (by simp) _).alloc (by simp; omega) _) hb1
  clear hb1
  have HS := Lib.hid (show ∀ w' : World, Below W5.heap.size W5 w' → (w'.cell? ⟨w.heap.size, 0, none⟩ = some (.int .i64 s0) ∧ w'.cell? ⟨w.heap.size, 1, none⟩ = some (.int .i64 s1) ∧ w'.cell? ⟨w.heap.size + 1, 0, none⟩ = some (.int .i64 q0) ∧ w'.cell? ⟨w.heap.size + 1, 1, none⟩ = some (.int .i64 q1) ∧ w'.cell? ⟨w.heap.size + 1 + 1, 0, none⟩ = some (.int .i64 p) ∧ w'.cell? ⟨w.heap.size + 1 + 1, 1, none⟩ = some (.int .i64 a) ∧ w'.cell? ⟨w.heap.size + 1 + 1, 2, none⟩ = some (.int .i64 u) ∧ w'.cell? ⟨w.heap.size + 1 + 1, 3, none⟩ = some (.int .i64 t)) from fun w' hb => ⟨(S0.step hb).cell 0, (S0.step hb).cell 1, (S1.step hb).cell 0, (S1.step hb).cell 1, (S2.step hb).cell 0, (S2.step hb).cell 1, (S2.step hb).cell 2, (S2.step hb).cell 3⟩)
  obtain ⟨k1, k2, k3, k4, k5, k6, k7, k8⟩ := HS.out W5 (Below.refl _ _)
  clear S0 S1 S2
  go_upto_region 2 with fail
  go_region_held3 (fun w' => w'.cell? ⟨w.heap.size, 0, none⟩ = some (.int .i64 s0) ∧ w'.cell? ⟨w.heap.size, 1, none⟩ = some (.int .i64 s1) ∧ w'.cell? ⟨w.heap.size + 1, 0, none⟩ = some (.int .i64 q0) ∧ w'.cell? ⟨w.heap.size + 1, 1, none⟩ = some (.int .i64 q1) ∧ w'.cell? ⟨w.heap.size + 1 + 1, 0, none⟩ = some (.int .i64 p) ∧ w'.cell? ⟨w.heap.size + 1 + 1, 1, none⟩ = some (.int .i64 a) ∧ w'.cell? ⟨w.heap.size + 1 + 1, 2, none⟩ = some (.int .i64 u) ∧ w'.cell? ⟨w.heap.size + 1 + 1, 3, none⟩ = some (.int .i64 t))
    (first | exact ⟨k1, k2, k3, k4, k5, k6, k7, k8⟩ | exact HS.out _ (by (repeat (first | with_reducible assumption | with_reducible exact Below.refl _ _ | with_reducible refine Below.drew ?_ | with_reducible refine below_drewN ?_ _))))
    (first
      | (go_at_call 18; refine (tells_any _ _ _ _ _ (by first | exact q0m | exact A1)).mono ?_; rintro e v1 ⟨rfl, hv1⟩; have Q1 : Below W5.heap.size W5 v1 := below_step (by (repeat (first | with_reducible assumption | with_reducible exact Below.refl _ _ | with_reducible refine Below.drew ?_ | with_reducible refine below_drewN ?_ _))) hv1; clear hv1)
      | (go_at_call 10; refine (part_any p a u t _).mono ?_; rintro e v2 ⟨rfl, hv2⟩; have Q2 : Below W5.heap.size W5 v2 := below_step (by (repeat (first | with_reducible assumption | with_reducible exact Below.refl _ _ | with_reducible refine Below.drew ?_ | with_reducible refine below_drewN ?_ _))) hv2; clear hv2; rw [hP.out, hT.out])
      | (go_at_call 12; refine (active_any p a u t _).mono ?_; rintro e v3 ⟨rfl, hv3⟩; have Q3 : Below W5.heap.size W5 v3 := below_step (by (repeat (first | with_reducible assumption | with_reducible exact Below.refl _ _ | with_reducible refine Below.drew ?_ | with_reducible refine below_drewN ?_ _))) hv3; clear hv3; rw [hA.out])
      | (go_at_call 13; refine (use_any p a u t _ u0 u1).mono ?_; rintro e v4 ⟨rfl, hv4⟩; have Q4 : Below W5.heap.size W5 v4 := below_step (by (repeat (first | with_reducible assumption | with_reducible exact Below.refl _ _ | with_reducible refine Below.drew ?_ | with_reducible refine below_drewN ?_ _))) hv4; clear hv4; rw [hU.out]))
  all_goals
    go_wp2_with fail
    go_ret
    refine ⟨rfl, ?_⟩
    exact below_step B5 (by (repeat (first | with_reducible assumption | with_reducible exact Below.refl _ _ | with_reducible refine Below.drew ?_ | with_reducible refine below_drewN ?_ _)))

theorem own : ownKnob Try.prog.godebug = none := by kernel_rfl
theorem laidOut : laidOutB Try.prog = true := by kernel_rfl

set_option maxRecDepth 100000 in
theorem lifted (os : Os) (started : os.Started) (H : Type) (enc : TypeId × Value → H) :
    ReturnsInHanded {} Try.checked os 8 .any (Rows.activityTellsSpec.pre6 enc Try.prog Try.f8 Rows.activityTellsRow.domain false) (Rows.activityTellsSpec.post enc Try.prog Try.f8 false true false false) := by
  refine returnsInHanded_of_change (C := Try.checked) own started (by kernel_rfl) Try.func8
    (ChangeSpec.witness6 (enc := enc) (C := Try.checked) false ⟨#[], #[.agg #[.int .i64 0, .int .i64 0], .agg #[.int .i64 0, .int .i64 0], .agg #[.int .i64 0, .int .i64 0, .int .i64 0, .int .i64 0]], []⟩ 8 (by kernel_rfl) (by kernel_rfl) (by kernel_rfl) (by kernel_rfl)) ?_
  intro W base args ds gs before hval0 hW hcnd hsz
  have hval : ∀ (j : Nat) t v, Try.f8.params[j]? = some t → args[j]? = some v → Value.okWide Try.prog W .any base t v := hval0
  have hW' := hW
  obtain ⟨p, q, hA0, hV, rfl, hfz, hnd⟩ := hW
  have hA : DataW.TrodAll enc Try.prog W 0 (fun _ => true) true Try.f8.params.toList args.toList ds p := hA0
  rw [Try.params8] at hA hval
  obtain ⟨v0, vs0, d0, ds0, p0, q0, hargs, rfl, rfl, h0, r0⟩ := trodAll_cons hA
  obtain ⟨v1, vs1, d1, ds1, p1, q1, rfl, rfl, rfl, h1, r1⟩ := trodAll_cons r0
  obtain ⟨v2, vs2, d2, ds2, p2, q2, rfl, rfl, rfl, h2, r2⟩ := trodAll_cons r1
  obtain ⟨rfl, rfl, rfl⟩ := trodAll_nil r2
  obtain rfl : args = #[v0, v1, v2] := by cases args; simp_all
  obtain ⟨rfl, rfl⟩ := trodVars_none hV
  obtain ⟨s0, s1, rfl⟩ := open_part Try.underlying26 (by kernel_rfl) (by kernel_rfl) rfl rfl Try.underlying2 Try.underlying3 (hval 0 26 v0 rfl rfl) h0
  obtain ⟨q0, q1, rfl, hq0, hq1⟩ := open_arr2 Try.underlying39 Try.underlying2 (by kernel_rfl) (by kernel_rfl) (hval 1 39 v1 rfl rfl) h1
  obtain ⟨p, a, u, t, rfl, hp, ha, hu, ht⟩ := open_num Try.underlying23 (by kernel_rfl) (by kernel_rfl) rfl rfl rfl rfl Try.underlying2 Try.underlying3 (hval 2 23 v2 rfl rfl) h2
  refine (walk s0 s1 q0 q1 p a u t W hq0 hq1 hu).mono fun e W' ⟨he, hg⟩ => ?_
  subst he
  exact ⟨_, rfl, post_law laidOut (by kernel_rfl) rfl Try.underlying4 hW' rfl rfl hg⟩

theorem over : Rows.activityTellsRow.holds Try.pinned (OpenSpec.ofChange Rows.activityTellsSpec) :=
  OpenClaim.holds_of_wide 8 Try.f8 rfl rfl rfl rfl rfl rfl rfl ⟨rfl, rfl, rfl, rfl, rfl⟩ rfl rfl rfl rfl rfl (by kernel_rfl) Try.func8 (by kernel_rfl)
    (of_decide_eq_true (by kernel_rfl)) (by unfold Func.isWrapper; first | (rw [if_pos (by decide +kernel)]; kernel_rfl) | (rw [if_neg (by decide +kernel)]; exact ⟨rfl, rfl⟩))
    (fun os started H enc _ => lifted os started H enc)

/-- THE STATEMENT. -/
theorem proved : Rows.ActivityTellsSaid := over
#print axioms proved
end Go.Proofs.Ytidhleeoeapjmaa.activityTells
