/- 'vendue/venduelaw01.MoneyOrder' answers true at every input, and leaves its arguments as they were: the given statement Rows.MoneyOrderSaid. No condition. -/
import Derived.Test.YtjobdibkpddemaaRows
import Derived.Test.YtjobdibkpddemaaMem
import Derived.WalkKit
import Derived.ProofKit
import Derived.OpenShut
import Derived.Test.YtjobdibkpddemaaMoneyUse
namespace Go.Proofs.Ytjobdibkpddemaa.moneyOrder
open Go.ChangeShapes Go.WideShapes Go.ChangeAt Go.RowKit
open Go.ChangeMaps (open_string shut_string)
set_option linter.unusedVariables false

section
variable {H : Type} {enc : TypeId × Value → H} {P : Program} {W : World}
theorem open_arr4 {r : Reach} {b0 : Nat} {t e : TypeId} {v : Value} {d : DataW H} {p : List MemPlace} (ht : P.underlying t = some (.array 4 e)) (he : P.underlying e = some (.int .i64)) (hc : P.cellsOf e = 1) (hn : P.cellsOf t = 4)
    (hv : Value.okWide P W r b0 t v) (h : DataW.Trod enc P W 0 (fun _ => true) true t v d p) : ∃ q0 q1 q2 q3 : Int, v = .agg #[.int .i64 q0, .int .i64 q1, .int .i64 q2, .int .i64 q3] := by
  have hv' := hv
  simp only [Value.okWide, ht] at hv'
  obtain ⟨⟨cs⟩, rfl, hsz, _⟩ := hv'
  rw [hn] at hsz
  match cs, hsz with
  | [c0, c1, c2, c3], _ =>
    obtain ⟨fuel, hf⟩ := h
    obtain ⟨xs, m, _, _, _, hlen, hx⟩ := DataW.trod_array ht hf
    match xs, hlen with
    | [x0, x1, x2, x3], _ =>
      have g0 := hx 0 (by omega)
      have g1 := hx 1 (by omega)
      have g2 := hx 2 (by omega)
      have g3 := hx 3 (by omega)
      rw [hc] at g0 g1 g2 g3
      simp [Value.cells] at g0 g1 g2 g3
      obtain ⟨n0, e0, _⟩ := DataW.trod_int he g0
      obtain ⟨n1, e1, _⟩ := DataW.trod_int he g1
      obtain ⟨n2, e2, _⟩ := DataW.trod_int he g2
      obtain ⟨n3, e3, _⟩ := DataW.trod_int he g3
      simp at e0 e1 e2 e3
      subst e0 e1 e2 e3
      exact ⟨n0, n1, n2, n3, rfl⟩
end
theorem share_more (x y p r : Int) (x0 : 0 ≤ x) (hxy : x ≤ y) (p0 : 0 ≤ p) : x * p / 10000 ≤ y * p / 10000 ∧ (p ≤ r → x * p / 10000 ≤ x * r / 10000) := by
  constructor
  · exact Int.ediv_le_ediv (by omega) (Int.mul_le_mul_of_nonneg_right hxy p0)
  · intro h
    exact Int.ediv_le_ediv (by omega) (Int.mul_le_mul_of_nonneg_left h x0)
theorem up_more (x s t : Int) (x0 : 0 ≤ x) (x1 : x ≤ 1099511627775) (s0 : 1 ≤ s) (s1 : s ≤ 1048576) (t0 : 1 ≤ t) (t1 : t ≤ 64) (m0 : 1 ≤ s * t) (m1 : s * t ≤ 67108864) : upV x s ≤ upV x (s * t) := by
  obtain ⟨_, f1, f2, f3⟩ := up_facts x s x0 (by omega) s0 (by omega)
  obtain ⟨_, g1, g2, g3⟩ := up_facts x (s * t) x0 (by omega) m0 (by omega)
  have h1 : upV x (s * t) % s = 0 := by
    have e := Int.emod_add_mul_ediv (upV x (s * t)) (s * t)
    rw [g1, Int.zero_add, Int.mul_assoc] at e
    rw [← e, Int.mul_emod_right]
  generalize upV x s = v at *
  generalize upV x (s * t) = u at *
  have e1 := Int.emod_add_mul_ediv v s
  have e2 := Int.emod_add_mul_ediv u s
  rw [f1] at e1
  rw [h1] at e2
  by_cases h : v ≤ u
  · exact h
  · have hlt : u / s < v / s := by
      by_cases hc : u / s < v / s
      · exact hc
      · have := Int.mul_le_mul_of_nonneg_left (show v / s ≤ u / s by omega) (show 0 ≤ s by omega)
        omega
    have := Int.mul_le_mul_of_nonneg_left (show u / s + 1 ≤ v / s by omega) (show 0 ≤ s by omega)
    rw [Int.mul_add, Int.mul_one] at this
    omega

set_option maxHeartbeats 3200000 in
theorem walk (a b q0 q1 q2 q3 : Int) (w : World) (w0 : (Lit.int .i64 a).wf = true) (w1 : (Lit.int .i64 b).wf = true) :
    Calls Try.prog 6 #[.int .i64 a, .int .i64 b, .agg #[.int .i64 q0, .int .i64 q1, .int .i64 q2, .int .i64 q3]] w fun e w' => e = .returned (.bool true) ∧ Below w.heap.size w w' := by
  clear w0 w1
  have m0 := mask40 a
  have m1 := mask40 b
  have m2 := mask20 q2
  have m3 := mask6 q3
  have r0 := rem_twice q0 10001 (by omega)
  have r1 := rem_twice q1 10001 (by omega)
  go_enter Try.func6, Try.ntmps6
  go_wp2_with fail
  refine (awake_any _).mono ?_; rintro e w1 ⟨rfl, hb1⟩
  have hA := (At.new w 32 #[.int .i64 q0, .int .i64 q1, .int .i64 q2, .int .i64 q3]).step hb1
  have B1 := below_step ((Below.refl _ _).alloc (Nat.le_refl _) _) hb1
  have c0 := hA.cell 0
  have c1 := hA.cell 1
  have c2 := hA.cell 2
  have c3 := hA.cell 3
  clear hb1
  go_wp2_with fail
  clear c0 c1 c2 c3 hA
  generalize bits BinOp.and IntKind.i64 a 1099511627775 = x at *
  generalize bits BinOp.and IntKind.i64 b 1099511627775 = z at *
  generalize bits BinOp.and IntKind.i64 q2 1048575 = s0 at *
  generalize bits BinOp.and IntKind.i64 q3 63 = t0 at *
  generalize (wrap64 (q0.tmod 10001 + 10001)).tmod 10001 = p at *
  generalize (wrap64 (q1.tmod 10001 + 10001)).tmod 10001 = r at *
  obtain ⟨y, hy⟩ : ∃ y, y = x + z := ⟨_, rfl⟩
  obtain ⟨s, hs⟩ : ∃ s, s = 1 + s0 := ⟨_, rfl⟩
  obtain ⟨t, ht⟩ : ∃ t, t = 1 + t0 := ⟨_, rfl⟩
  rw [← hy, ← hs, ← ht]
  obtain ⟨x0, x1⟩ := m0
  obtain ⟨p0, p1⟩ := r0
  obtain ⟨r0, r1⟩ := r1
  have y0 : x ≤ y := by omega
  have y1 : y ≤ 2199023255550 := by omega
  have s1 : 1 ≤ s ∧ s ≤ 1048576 := by omega
  have t1 : 1 ≤ t ∧ t ≤ 64 := by omega
  obtain ⟨s1, s2⟩ := s1
  obtain ⟨t1, t2⟩ := t1
  clear hy hs ht m1 m2 m3
  have st0 : 1 ≤ s * t := by have := Int.mul_le_mul s1 t1 (by omega) (by omega); omega
  have st1 : s * t ≤ 67108864 := by have := Int.mul_le_mul s2 t2 (by omega) (by omega); omega
  obtain ⟨g1, g2⟩ := share_more x y p r x0 y0 p0
  have UM := up_more x s t x0 x1 s1 s2 t1 t2 st0 st1
  have S1 := share_in x p x0 p0 (by omega) (by omega)
  have S2 := share_in y p (by omega) p0 (by omega) (by omega)
  have S3 := share_in x r x0 r0 (by omega) (by omega)
  have U1 := Lib.hid (up_facts x s x0 (by omega) s1 (by omega)).1
  have U2 := Lib.hid (up_facts x (s * t) x0 (by omega) st0 (by omega)).1
  have E1 := Lib.hid (And.intro S1.1 S1.2.1)
  have E2 := Lib.hid (And.intro S2.1 S2.2.1)
  have E3 := Lib.hid (And.intro S3.1 S3.2.1)
  have G2 := Lib.hid g2
  clear S1 S2 S3 g2
  refine (share_any x p _ (by omega) (by omega) (by omega) (by omega)).mono ?_; rintro e w2 ⟨rfl, hb2⟩
  rw [E1.out.1, E1.out.2]
  have B2 := below_step B1 hb2
  clear B1 hb2
  go_wp2_with fail
  refine (share_any y p _ (by omega) (by omega) (by omega) (by omega)).mono ?_; rintro e w3 ⟨rfl, hb3⟩
  rw [E2.out.1, E2.out.2]
  have B3 := below_step B2 hb3
  clear B2 hb3
  go_wp2_with fail
  refine (share_any x r _ (by omega) (by omega) (by omega) (by omega)).mono ?_; rintro e w4 ⟨rfl, hb4⟩
  rw [E3.out.1, E3.out.2]
  have B4 := below_step B3 hb4
  clear B3 hb4
  go_wp2_with fail
  refine (up_any x s _ (by omega) (by omega) (by omega) (by omega)).mono ?_; rintro e w5 ⟨rfl, hb5⟩
  rw [U1.out]
  have B5 := below_step B4 hb5
  clear B4 hb5
  go_wp2_with fail
  refine (up_any x (s * t) _ (by omega) (by omega) (by omega) (by omega)).mono ?_; rintro e w6 ⟨rfl, hb6⟩
  rw [U2.out]
  have B6 := below_step B5 hb6
  clear B5 hb6
  generalize x * p / 10000 = v1 at *
  generalize y * p / 10000 = v2 at *
  generalize upV x s = v4 at *
  generalize upV x (s * t) = v5 at *
  by_cases hpr : r < p
  · by_cases hc : v1 ≤ x * r / 10000
    · generalize x * r / 10000 = v3 at *
      go_wp2_with fail
      go_ret
      exact ⟨rfl, B6⟩
    · have hd : decide (v1 ≤ x * r / 10000) = false := decide_eq_false hc
      generalize x * r / 10000 = v3 at *
      go_wp2_with fail
      go_ret
      exact ⟨rfl, B6⟩
  · have hc := G2.out (by omega)
    generalize x * r / 10000 = v3 at *
    go_wp2_with fail
    go_ret
    exact ⟨rfl, B6⟩

theorem own : ownKnob Try.prog.godebug = none := by kernel_rfl
theorem laidOut : laidOutB Try.prog = true := by kernel_rfl

set_option maxRecDepth 100000 in
theorem lifted (os : Os) (started : os.Started) (H : Type) (enc : TypeId × Value → H) :
    ReturnsInHanded {} Try.checked os 6 .any (Rows.moneyOrderSpec.pre6 enc Try.prog Try.f6 Rows.moneyOrderRow.domain false) (Rows.moneyOrderSpec.post enc Try.prog Try.f6 false true false false) := by
  refine returnsInHanded_of_change (C := Try.checked) own started (by kernel_rfl) Try.func6
    (ChangeSpec.witness6 (enc := enc) (C := Try.checked) false ⟨#[], #[.int .i64 0, .int .i64 0, .agg #[.int .i64 0, .int .i64 0, .int .i64 0, .int .i64 0]], []⟩ 8 (by kernel_rfl) (by kernel_rfl) (by kernel_rfl) (by kernel_rfl)) ?_
  intro W base args ds gs before hval0 hW hcnd hsz
  have hval : ∀ (j : Nat) t v, Try.f6.params[j]? = some t → args[j]? = some v → Value.okWide Try.prog W .any base t v := hval0
  have hW' := hW
  obtain ⟨p, q, hA0, hV, rfl, hfz, hnd⟩ := hW
  have hA : DataW.TrodAll enc Try.prog W 0 (fun _ => true) true Try.f6.params.toList args.toList ds p := hA0
  rw [Try.params6] at hA hval
  obtain ⟨v0, vs0, d0, ds0, p0, q0, hargs, rfl, rfl, h0, r0⟩ := trodAll_cons hA
  obtain ⟨v1, vs1, d1, ds1, p1, q1, rfl, rfl, rfl, h1, r1⟩ := trodAll_cons r0
  obtain ⟨v2, vs2, d2, ds2, p2, q2, rfl, rfl, rfl, h2, r2⟩ := trodAll_cons r1
  obtain ⟨rfl, rfl, rfl⟩ := trodAll_nil r2
  obtain rfl : args = #[v0, v1, v2] := by cases args; simp_all
  obtain ⟨rfl, rfl⟩ := trodVars_none hV
  obtain ⟨a0, rfl, rfl, rfl, w0⟩ := open_int Try.underlying2 (hval 0 2 v0 rfl rfl) h0
  obtain ⟨a1, rfl, rfl, rfl, w1⟩ := open_int Try.underlying2 (hval 1 2 v1 rfl rfl) h1
  obtain ⟨q0, q1, q2, q3, rfl⟩ := open_arr4 Try.underlying32 Try.underlying3 (by kernel_rfl) (by kernel_rfl) (hval 2 32 v2 rfl rfl) h2
  refine (walk a0 a1 q0 q1 q2 q3 W w0 w1).mono fun e W' ⟨he, hg⟩ => ?_
  subst he
  exact ⟨_, rfl, post_law laidOut (by kernel_rfl) rfl Try.underlying4 hW' rfl rfl hg⟩

theorem over : Rows.moneyOrderRow.holds Try.pinned (OpenSpec.ofChange Rows.moneyOrderSpec) :=
  OpenClaim.holds_of_wide 6 Try.f6 rfl rfl rfl rfl rfl rfl rfl ⟨rfl, rfl, rfl, rfl, rfl⟩ rfl rfl rfl rfl rfl (by kernel_rfl) Try.func6 (by kernel_rfl)
    (of_decide_eq_true (by kernel_rfl)) (by unfold Func.isWrapper; first | (rw [if_pos (by decide +kernel)]; kernel_rfl) | (rw [if_neg (by decide +kernel)]; exact ⟨rfl, rfl⟩))
    (fun os started H enc _ => lifted os started H enc)

/-- THE STATEMENT. -/
theorem proved : Rows.MoneyOrderSaid := over
#print axioms proved
end Go.Proofs.Ytjobdibkpddemaa.moneyOrder
