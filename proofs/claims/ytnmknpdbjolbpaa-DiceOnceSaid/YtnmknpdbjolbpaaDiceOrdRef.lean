/- The contract of the reference's Order (package vendueref15): an order, in a row of its own; memory that lay before lies as it lay. -/
import Derived.Test.YtnmknpdbjolbpaaDiceOrd
namespace Go.Proofs.Ytnmknpdbjolbpaa
open Go.RowKit
set_option linter.unusedVariables false

theorem firstL_succ (k : Nat) : (firstL (k + 1)).map (Value.int .i64) = (firstL k).map (Value.int .i64) ++ [.int .i64 (k : Int)] := by
  unfold firstL
  rw [List.range_succ, List.map_append, List.map_append]
  rfl
theorem firstL_len (k : Nat) : (firstL k).length = k := by unfold firstL; simp

theorem own_at {w : World} {base g n cap : Nat} {zs : List Int} (h : w.ownsRow base 3 1 (.slice (some ⟨g, 0, none⟩) n cap) n (zs.map (Value.int .i64))) (hl : zs.length = n) (j : Nat) (hj : j < n) : w.cell? ⟨g, j, none⟩ = some (.int .i64 (zs.getD j 0)) := by
  rw [h.cellAt j (by omega)]
  simp [List.getD_eq_getElem?_getD, show j < zs.length by omega]

set_option maxHeartbeats 3200000 in
set_option maxRecDepth 100000 in
theorem refOrder_any (s n : Int) (w : World) (n0 : -9223372036854775808 ≤ n) (n1 : n ≤ 9223372036854775807) :
    Calls Try.prog 22 #[.int .u64 s, .int .i64 n] w fun e w' => ListPost (ordL s n) w e w' := by
  by_cases h : n < 1 ∨ 1000 < n
  · have HV := Lib.hid (show ordL s n = [] by unfold ordL; rw [if_pos h])
    have hfin : ∀ w', Below w.heap.size w w' → ListPost (ordL s n) w (.returned (.slice none 0 0)) w' := fun w' hb => by
      rw [HV.out]
      exact ⟨none, 0, rfl, fun hl => absurd hl (by simp), hb⟩
    have HF := Lib.hid hfin
    clear hfin
    by_cases h1 : n < 1
    · have h2 : ¬ (0 : Int) < n := by omega
      clear h
      go_enter Try.func22, Try.ntmps22
      go_wp2_with fail
      refine wp_loop_rounds 1 ?_
      rw [rounds_succ]
      go_wp2_with fail
      refine wp_loop_rounds 1 ?_
      rw [rounds_succ]
      go_wp2_with fail
      go_ret
      exact HF.out _ ((Below.refl _ _).alloc (Nat.le_refl _) _)
    · have h2 : (0 : Int) < n := by omega
      have h3 : decide (n ≤ 1000) = false := decide_eq_false (by omega)
      have h4 : ¬ n ≤ 1000 := by omega
      clear h
      go_enter Try.func22, Try.ntmps22
      go_wp2_with fail
      refine wp_loop_rounds 1 ?_
      rw [rounds_succ]
      go_wp2_with fail
      refine wp_loop_rounds 1 ?_
      rw [rounds_succ]
      go_wp2_with fail
      go_ret
      exact HF.out _ ((Below.refl _ _).alloc (Nat.le_refl _) _)
  · obtain ⟨J, hJ⟩ : ∃ J : Nat, n = (J : Int) + 1 := ⟨n.toNat - 1, by omega⟩
    subst hJ
    have HV := Lib.hid (show ordL s ((J : Int) + 1) = ((downFrom J).foldl goSt (s, firstL (J + 1))).2 by unfold ordL; rw [if_neg h]; rfl)
    have q2 : J ≤ 999 := by omega
    clear h n0 n1
    obtain ⟨i0, hi, hz0, hz1, hz2⟩ := info_parts info_int
    go_enter Try.func22, Try.ntmps22
    go_wp2_with fail
    go_loopw [5, 6] (fun v i wr => ∃ k : Nat, i = .int .i64 k ∧ k ≤ J + 1 ∧ wr.ownsRow w.heap.size 3 1 v k ((firstL k).map (Value.int .i64)) ∧ Below w.heap.size w wr) (fun _ i _ => J + 1 - (intOf i).toNat)
    case atStart => exact ⟨0, rfl, by omega, World.ownsRow_nil _ _ _ _, Below.refl _ _⟩
    case round =>
      obtain ⟨k, rfl, hk, hown, hb⟩ := hrel
      by_cases hlt : k < J + 1
      · have hsz := hb.size
        have k0 : (k : Int) < (J : Int) + 1 := by omega
        go_wp2_with (at_builtin; refine wpList_append_own _ rfl _ _ 34 rfl w.heap.size 3 i0 (.int .i64 0) 1 8 Try.underlying34 hi hz0 hz1 hz2 rfl (by decide) _ _ _ rfl (hown.alloc _) ⟨wr.heap.size, 0, none⟩ 1 1 [.int .i64 (k : Int)] rfl rfl (new_cell _ _ _) (one_int _ _) (by unfold maxLen; omega) (by omega) (by simp; omega) ?_; intro v' w1 hown' hgrow _)
        have hb1 := below_append hb hsz hown hgrow
        have hown1 : w1.ownsRow w.heap.size 3 1 v' (k + 1) ((firstL (k + 1)).map (Value.int .i64)) := by rw [firstL_succ]; simpa using hown'
        clear hown hown' hgrow hb
        go_wp2_with fail
        go_roundw
        case rel => exact ⟨k + 1, by go_num, by omega, hown1, hb1⟩
        case measure => simp [intOf]; omega
      · obtain rfl : k = J + 1 := by omega
        have hown2 : wr.ownsRow w.heap.size 3 1 u5 (firstL (J + 1)).length ((firstL (J + 1)).map (Value.int .i64)) := by rw [firstL_len]; exact hown
        obtain ⟨g, cap, rfl, hg0, hg1⟩ := own_form hown2 (by rw [firstL_len]; omega)
        rw [firstL_len] at hown2 ⊢
        have hsz := hb.size
        clear hown hlt hk
        obtain ⟨wo, rfl⟩ : ∃ wo : World, wo = wr := ⟨_, rfl⟩
        rw [show ((J + 1 : Nat) : Int) = (J : Int) + 1 from rfl]
        go_wp2_with fail
        obtain ⟨W1, hW1⟩ : ∃ W1, W1 = wo.alloc (.cells #[.int .u64 s] 38) := ⟨_, rfl⟩
        have hD : At W1 wo.heap.size 38 #[.int .u64 s] := by rw [hW1]; exact At.new _ _ _
        have hO : W1.ownsRow w.heap.size 3 1 (.slice (some ⟨g, 0, none⟩) (J + 1) cap) (J + 1) ((firstL (J + 1)).map (Value.int .i64)) := by rw [hW1]; exact hown2.alloc _
        have hB : Below w.heap.size w W1 := by rw [hW1]; exact hb.alloc hsz _
        rw [← hW1]
        have hgd : g < wo.heap.size := hg1
        clear hW1 hown2 hb
        go_loopw [8] (fun i wx => ∃ (m : Nat) (st : Int × List Int), i = .int .i64 m ∧ m ≤ J ∧ st.2.length = J + 1 ∧ Hid (((downFrom m).foldl goSt st).2 = ((downFrom J).foldl goSt (s, firstL (J + 1))).2) ∧ At wx wo.heap.size 38 #[.int .u64 st.1] ∧
          wx.ownsRow w.heap.size 3 1 (.slice (some ⟨g, 0, none⟩) (J + 1) cap) (J + 1) (st.2.map (Value.int .i64)) ∧ Below w.heap.size w wx) (fun i _ => (intOf i).toNat)
        case atStart => exact ⟨J, (s, firstL (J + 1)), by go_num, Nat.le_refl _, firstL_len _, rfl, hD, hO, hB⟩
        case round =>
          obtain ⟨m, ⟨d, zs⟩, rfl, hm, hl, hF, hDr, hOr, hBr⟩ := hrel
          simp only at hl hF hDr hOr
          clear hD hO hB
          by_cases h0 : 0 < m
          · obtain ⟨i, hi⟩ : ∃ i, m = i + 1 := ⟨m - 1, by omega⟩
            subst hi
            have hbd := below_dice d ((i + 1 : Nat) : Int) (by omega) (by omega)
            obtain ⟨k, hk⟩ : ∃ k : Nat, belowZ (mixZ (stepZ d)) (((i + 1 : Nat) : Int) + 1) = (k : Int) := ⟨(belowZ (mixZ (stepZ d)) (((i + 1 : Nat) : Int) + 1)).toNat, by omega⟩
            rw [hk] at hbd
            have hkm : k ≤ i + 1 := by omega
            have HN := Lib.hid (show ((downFrom i).foldl goSt (stepZ d, swapL zs (i + 1) k)).2 = ((downFrom J).foldl goSt (s, firstL (J + 1))).2 by
              rw [← hF.out]
              show _ = ((downFrom i).foldl goSt (goSt (d, zs) ((i + 1 : Nat) : Int))).2
              unfold goSt
              rw [hk]
              rfl)
            have HK := Lib.hid (show belowZ (mixZ (stepZ d)) ((i : Int) + 1 + 1) = (k : Int) from hk)
            have HL := Lib.hid hl
            clear hk hbd hF
            go_wp2_with fail
            refine (refbelow_in wo.heap.size d ((i : Int) + 1 + 1) _ (by omega) (by omega) hDr).mono ?_; rintro e w' ⟨rfl, rfl⟩
            rw [HK.out]
            have D2 := hDr.put1 (.int .u64 (stepZ d))
            have O2 := hOr.kept (grownBy_put wr ⟨wo.heap.size, 0, none⟩ (.int .u64 (stepZ d))) (Or.inr (fun e => by
              have : g = wo.heap.size := by simpa [Value.ownBlock] using e
              omega))
            have B2 := hBr.setCell (p := ⟨wo.heap.size, 0, none⟩) hsz (.int .u64 (stepZ d))
            obtain ⟨W2, hW2⟩ : ∃ W2, W2 = wr.setCell ⟨wo.heap.size, 0, none⟩ (.int .u64 (stepZ d)) := ⟨_, rfl⟩
            rw [← hW2] at D2 O2 B2 ⊢
            clear hW2 hDr hOr hBr
            have ci := own_at O2 HL.out (i + 1) (by omega)
            have ck := own_at O2 HL.out k (by omega)
            have fi := O2.frozenAt (i + 1)
            have fk := O2.frozenAt k
            have O3 := own_put O2 (i + 1) (zs.getD k 0)
            have c2 := own_at O3 (by simpa using HL.out) k (by omega)
            have O4 := own_put O3 k (zs.getD (i + 1) 0)
            have hsw : (zs.set (i + 1) (zs.getD k 0)).set k (zs.getD (i + 1) 0) = swapL zs (i + 1) k := rfl
            rw [hsw] at O4
            clear hsw
            generalize zs.getD (i + 1) 0 = x at *
            generalize zs.getD k 0 = y at *
            generalize (zs.set (i + 1) y).getD k 0 = v2 at *
            have hswl := Lib.hid (swapL_len zs (i + 1) k)
            have k0 : (k : Int) < (J : Int) + 1 := by omega
            have i1 : (i : Int) + 1 < (J : Int) + 1 := by omega
            go_wp2_with fail
            go_roundw
            case rel => exact ⟨i, (stepZ d, swapL zs (i + 1) k), by go_num, by omega, by rw [hswl.out, HL.out], HN.out, (D2.far (p := ⟨g, i + 1, none⟩) (by simp; omega) _).far (p := ⟨g, k, none⟩) (by simp; omega) _, O4, (B2.setCell (p := ⟨g, i + 1, none⟩) hg0 _).setCell (p := ⟨g, k, none⟩) hg0 _⟩
            case measure => simp [intOf]
          · obtain rfl : m = 0 := by omega
            have hFz : zs = ((downFrom J).foldl goSt (s, firstL (J + 1))).2 := hF.out
            have hrow : Row64 wr (some ⟨g, 0, none⟩) zs := fun _ => ⟨g, 0, rfl, (hOr.lt g rfl).2, fun j hj => by rw [Nat.zero_add]; exact own_at hOr hl j (by omega)⟩
            have hfin : ListPost (ordL s ((J : Int) + 1)) w (.returned (.slice (some ⟨g, 0, none⟩) (J + 1) cap)) wr := by
              rw [HV.out]
              rw [← hFz]
              exact ⟨some ⟨g, 0, none⟩, cap, by rw [hl], hrow, hBr⟩
            have HF := Lib.hid hfin
            clear hfin hrow hFz hF hOr hl
            go_wp2_with fail
            go_ret
            exact HF.out
end Go.Proofs.Ytnmknpdbjolbpaa
