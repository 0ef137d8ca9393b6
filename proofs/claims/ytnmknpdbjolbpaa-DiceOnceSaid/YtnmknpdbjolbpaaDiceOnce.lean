/- 'vendue/venduelaw15.DiceOnce' answers true at every input, and leaves its arguments as they were: the given statement Rows.DiceOnceSaid. No condition. -/
import Derived.Test.YtnmknpdbjolbpaaRows
import Derived.Test.YtnmknpdbjolbpaaMem
import Derived.WalkKit
import Derived.ProofKit
import Derived.OpenShut
import Derived.Deep.RegionHeld3
import Derived.Test.YtnmknpdbjolbpaaDiceDown
namespace Go.Proofs.Ytnmknpdbjolbpaa.diceOnce
open Go.ChangeShapes Go.WideShapes Go.ChangeAt Go.RowKit
open Go.ChangeMaps (open_string shut_string)
set_option linter.unusedVariables false

set_option maxRecDepth 100000 in
theorem zero44 (w : World) : (zeroValue 44).run Try.prog w = .ok (.agg (Array.replicate 200 (.bool false))) w := rfl
theorem seen_made (w : World) (n t : Nat) : (w.alloc (.cells (Array.replicate n (.bool false)) t)).rowIs w.heap.size t n (fun _ => .bool false) := by
  refine ⟨_, At.new w t _, by simp, fun j hj => by simp [hj]⟩
/-- Whether x stands among the first j. -/
def seenB (zs : List Int) (j x : Nat) : Bool := decide (∃ m, m < j ∧ zs.getD m 0 = (x : Int))
theorem seenB_0 (zs : List Int) (x : Nat) : seenB zs 0 x = false := decide_eq_false (by rintro ⟨m, hm, _⟩; omega)
theorem seenB_new (zs : List Int) (j y k : Nat) (h : Once k zs) (hj : j < k) (hy : zs.getD j 0 = (y : Int)) : seenB zs j y = false := decide_eq_false (by
  rintro ⟨m, hm, e⟩
  have := h.2.2 m j (by omega) hj (e.trans hy.symm)
  omega)
theorem seenB_put (zs : List Int) (j y x : Nat) (hy : zs.getD j 0 = (y : Int)) : seenB zs (j + 1) x = if x = y then true else seenB zs j x := by
  by_cases e : x = y
  · rw [if_pos e]
    exact decide_eq_true ⟨j, by omega, by rw [hy, e]⟩
  · rw [if_neg e]
    unfold seenB
    refine decide_eq_decide.2 ⟨?_, ?_⟩
    · rintro ⟨m, hm, h⟩
      refine ⟨m, ?_, h⟩
      by_cases em : m = j
      · subst em
        rw [hy] at h
        omega
      · omega
    · rintro ⟨m, hm, h⟩
      exact ⟨m, by omega, h⟩
set_option maxRecDepth 100000 in
set_option maxHeartbeats 1600000 in
theorem walk (a0 a1 : Int) (w : World) (w0 : (Lit.int .u64 a0).wf = true) (w1 : (Lit.int .i64 a1).wf = true) :
    Calls Try.prog 9 #[.int .u64 a0, .int .i64 a1] w fun e w' => e = .returned (.bool true) ∧ Below w.heap.size w w' := by
  obtain ⟨h0, h0'⟩ := bd_u64 _ w0
  obtain ⟨h1, h1'⟩ := bd_i64 _ w1
  clear w0 w1
  have hK := rem_twice a1 200 (by omega)
  go_enter Try.func9, Try.ntmps9
  go_wp2_with fail
  refine (awake_any _).mono ?_; rintro e w' ⟨rfl, rfl⟩
  obtain ⟨W1, hW1⟩ : ∃ W1, W1 = w.alloc (.cells #[.int .u64 11400714819323198485] 31) := ⟨_, rfl⟩
  have hg : Below w.heap.size w W1 := by rw [hW1]; exact (Below.refl _ _).alloc (Nat.le_refl _) _
  rw [← hW1]
  clear hW1
  go_wp2_with fail
  obtain ⟨k, hk⟩ : ∃ k : Nat, 1 + (wrap64 (a1.tmod 200 + 200)).tmod 200 = (k : Int) := ⟨(1 + (wrap64 (a1.tmod 200 + 200)).tmod 200).toNat, by omega⟩
  rw [hk]
  have k1 : 1 ≤ k := by omega
  have k2 : k ≤ 200 := by omega
  clear hk hK
  have ho := ordL_once a0 (k : Int) (by omega) (by omega)
  rw [Int.toNat_natCast] at ho
  refine (order_any a0 (k : Int) _ (by omega) (by omega)).mono ?_; rintro e w1 ⟨p1, d1, rfl, R1, B1⟩
  obtain ⟨zs, hzs⟩ : ∃ zs, zs = ordL a0 (k : Int) := ⟨_, rfl⟩
  rw [← hzs] at R1 ho ⊢
  clear hzs
  obtain ⟨b, o, rfl, hb, hc⟩ := R1 (by rw [ho.1]; omega)
  rw [ho.1]
  have HC := Lib.hid (show ∀ i, i < k → w1.cell? ⟨b, o + i, none⟩ = some (.int .i64 (zs.getD i 0)) from fun i hi => hc i (by rw [ho.1]; exact hi))
  have HO := Lib.hid ho
  have hz4 := zero44
  have hkk : ((k : Int) != (k : Int)) = false := by simp
  have hg1 := below_step hg B1
  clear hc ho R1 B1 hg
  go_wp2_with fail
  obtain ⟨W2, hW2⟩ : ∃ W2, W2 = w1.alloc (.cells (Array.replicate 200 (.bool false)) 44) := ⟨_, rfl⟩
  have hR2 : W2.rowIs w1.heap.size 44 200 (fun x => .bool (seenB zs 0 x)) := by
    rw [hW2]
    exact (seen_made w1 200 44).congr fun x _ => by rw [seenB_0]
  have hC2 := Lib.hid (show ∀ i, i < k → W2.cell? ⟨b, o + i, none⟩ = some (.int .i64 (zs.getD i 0)) from fun i hi => by
    rw [hW2]
    exact ((((Below.refl _ _).alloc (Nat.le_refl _) _ : Below w1.heap.size w1 _)).cell (p := ⟨b, o + i, none⟩) hb).trans (HC.out i hi))
  have hB2 : Below w.heap.size w W2 := by rw [hW2]; exact hg1.alloc hg1.size _
  have hs1 := hg1.size
  obtain ⟨B, hBB⟩ : ∃ B, B = w1.heap.size := ⟨_, rfl⟩
  rw [← hBB] at hR2 hb hs1 ⊢
  rw [← hW2]
  clear hW2 HC hz4 hkk hg1 hBB
  go_loopw [9] (fun i wr => ∃ j : Nat, i = .int .i64 j ∧ j ≤ k ∧ wr.rowIs B 44 200 (fun x => .bool (seenB zs j x)) ∧ Hid (∀ i, i < k → wr.cell? ⟨b, o + i, none⟩ = some (.int .i64 (zs.getD i 0))) ∧ Below w.heap.size w wr) (fun i _ => k - (intOf i).toNat)
  case atStart => exact ⟨0, rfl, by omega, hR2, hC2, hB2⟩
  case round =>
    obtain ⟨j, rfl, hj, hR, HC, hB⟩ := hrel
    clear hR2 hC2 hB2
    by_cases hlt : j < k
    · have j0 : (j : Int) < (k : Int) := by omega
      have c1 := HC.out j hlt
      have hx := HO.out.2.1 j hlt
      obtain ⟨y, hy⟩ : ∃ y : Nat, zs.getD j 0 = (y : Int) := Int.eq_ofNat_of_zero_le hx.1
      rw [hy] at c1 hx
      have y1 : (y : Int) < (k : Int) := hx.2
      have y2 : ¬ (y : Int) < 0 := by omega
      have y3 : ¬ (k : Int) ≤ (y : Int) := by omega
      have y4 : (y : Int) < 200 := by omega
      have y5 : y < 200 := by omega
      have HY := Lib.hid hy
      have c2 : wr.cell? ⟨B, y, none⟩ = some (.bool false) := (hR.cell y5).trans (by rw [seenB_new zs j y k HO.out hlt HY.out])
      have f2 := hR.frozen y
      clear hx hy
      go_wp2_with fail
      go_roundw
      case rel =>
        exact ⟨j + 1, by go_num, by omega, (hR.set y (.bool true)).congr (fun x _ => by
          rw [seenB_put zs j y x HY.out]
          by_cases e : x = y
          · rw [if_pos e, if_pos e]
          · rw [if_neg e, if_neg e]), Lib.hid (fun i hi => (World.cell?_setCell_other _ _ _ _ (by intro e; injection e with e1; omega)).trans (HC.out i hi)), hB.setCell (p := ⟨B, y, none⟩) hs1 _⟩
      case measure => simp [intOf]; omega
    · obtain rfl : j = k := by omega
      go_wp2_with fail
      go_ret
      exact ⟨rfl, hB⟩

theorem own : ownKnob Try.prog.godebug = none := by kernel_rfl
theorem laidOut : laidOutB Try.prog = true := by kernel_rfl

set_option maxRecDepth 100000 in
theorem lifted (os : Os) (started : os.Started) (H : Type) (enc : TypeId × Value → H) :
    ReturnsInHanded {} Try.checked os 9 .any (Rows.diceOnceSpec.pre6 enc Try.prog Try.f9 Rows.diceOnceRow.domain false) (Rows.diceOnceSpec.post enc Try.prog Try.f9 false true false false) := by
  refine returnsInHanded_of_change (C := Try.checked) own started (by kernel_rfl) Try.func9
    (ChangeSpec.witness6 (enc := enc) (C := Try.checked) false ⟨#[], #[.int .u64 0, .int .i64 0], []⟩ 8 (by kernel_rfl) (by kernel_rfl) (by kernel_rfl) (by kernel_rfl)) ?_
  intro W base args ds gs before hval0 hW hcnd hsz
  have hval : ∀ (j : Nat) t v, Try.f9.params[j]? = some t → args[j]? = some v → Value.okWide Try.prog W .any base t v := hval0
  have hW' := hW
  obtain ⟨p, q, hA0, hV, rfl, hfz, hnd⟩ := hW
  have hA : DataW.TrodAll enc Try.prog W 0 (fun _ => true) true Try.f9.params.toList args.toList ds p := hA0
  rw [Try.params9] at hA hval
  obtain ⟨v0, vs0, d0, ds0, p0, q0, hargs, rfl, rfl, h0, r0⟩ := trodAll_cons hA
  obtain ⟨v1, vs1, d1, ds1, p1, q1, rfl, rfl, rfl, h1, r1⟩ := trodAll_cons r0
  obtain ⟨rfl, rfl, rfl⟩ := trodAll_nil r1
  obtain rfl : args = #[v0, v1] := by cases args; simp_all
  obtain ⟨rfl, rfl⟩ := trodVars_none hV
  obtain ⟨a0, rfl, rfl, rfl, w0⟩ := open_int Try.underlying22 (hval 0 22 v0 rfl rfl) h0
  obtain ⟨a1, rfl, rfl, rfl, w1⟩ := open_int Try.underlying3 (hval 1 3 v1 rfl rfl) h1
  refine (walk a0 a1 W w0 w1).mono fun e W' ⟨he, hg⟩ => ?_
  subst he
  exact ⟨_, rfl, post_law laidOut (by kernel_rfl) rfl Try.underlying4 hW' rfl rfl hg⟩

theorem over : Rows.diceOnceRow.holds Try.pinned (OpenSpec.ofChange Rows.diceOnceSpec) :=
  OpenClaim.holds_of_wide 9 Try.f9 rfl rfl rfl rfl rfl rfl rfl ⟨rfl, rfl, rfl, rfl, rfl⟩ rfl rfl rfl rfl rfl (by kernel_rfl) Try.func9 (by kernel_rfl)
    (of_decide_eq_true (by kernel_rfl)) (by unfold Func.isWrapper; first | (rw [if_pos (by decide +kernel)]; kernel_rfl) | (rw [if_neg (by decide +kernel)]; exact ⟨rfl, rfl⟩))
    (fun os started H enc _ => lifted os started H enc)

/-- THE STATEMENT. -/
theorem proved : Rows.DiceOnceSaid := over
#print axioms proved
end Go.Proofs.Ytnmknpdbjolbpaa.diceOnce
