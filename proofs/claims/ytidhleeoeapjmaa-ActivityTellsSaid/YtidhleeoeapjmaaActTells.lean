/- The contract of venduelaw17.tells: the program's package activity and the reference of chapter 17 answer the same. -/
import Derived.Test.YtidhleeoeapjmaaActRef2
import Derived.Deep.DeepCutAuto
import Derived.Outline
namespace Go.Proofs.Ytidhleeoeapjmaa
open Go.RowKit
set_option linter.unusedVariables false

theorem check_bel (p t : Int) (w : World) :
    Calls Try.prog 17 #[.agg #[.int .i64 p, .int .i64 t]] w fun e w' => e = .returned (.bool (checkB p t)) ∧ Below w.heap.size w w' :=
  (check_any p t w).mono fun e w' ⟨he, hw⟩ => ⟨he, by rw [← hw]; exact (Below.refl _ _).alloc (Nat.le_refl _) _⟩

set_option maxRecDepth 100000 in
set_option maxHeartbeats 8000000 in
theorem tells_any (p t a u : Int) (w : World) (a1 : a ≤ 9223372036854775807) :
    Calls Try.prog 18 #[.agg #[.int .i64 p, .int .i64 t], .int .i64 a, .int .i64 u] w fun e w' => e = .returned (.bool true) ∧ Below w.heap.size w w' := by
  have Z := Lib.hid (show ∀ x : Int, (x == x) = true from fun x => beq_self_eq_true x)
  have ZB := Lib.hid (show ∀ x : Bool, (x == x) = true from fun x => beq_self_eq_true x)
  go_enter Try.func18, Try.ntmps18
  go_wp2_with fail
  obtain ⟨x, hx⟩ : ∃ x, x = nextR p t a u false := ⟨_, rfl⟩
  obtain ⟨y, hy⟩ : ∃ y, y = nextR p t a u true := ⟨_, rfl⟩
  have HX := Lib.hid hx.symm
  have HY := Lib.hid hy.symm
  clear hx hy
  refine (next_any p t a u false _).mono ?_; rintro e w1 ⟨rfl, hb1⟩
  rw [HX.out]
  have S1 := (At.new w 26 #[.int .i64 p, .int .i64 t]).step hb1
  have B1 := below_step ((Below.refl _ _).alloc (Nat.le_refl _) _) hb1
  clear hb1
  have c0 := S1.cell 0
  have c1 := S1.cell 1
  have l0 := S1.lt
  simp at c0 c1
  go_wp2_with fail
  clear c0 c1 l0
  refine (refNext_any p t a u false _).mono ?_; rintro e w2 ⟨rfl, hb2⟩
  rw [HX.out]
  have S2 := (S1.alloc (.cells #[.int .i64 x.1, .int .i64 x.2.1] 26)).step hb2
  have B2 := below_step (B1.alloc B1.size _) hb2
  have D12 := (At.new w1 26 #[.int .i64 x.1, .int .i64 x.2.1]).step hb2
  clear S1 B1
  clear hb2
  have c0 := S2.cell 0
  have c1 := S2.cell 1
  have l0 := S2.lt
  simp at c0 c1
  go_wp2_with fail
  clear c0 c1 l0
  refine (next_any p t a u true _).mono ?_; rintro e w3 ⟨rfl, hb3⟩
  rw [HY.out]
  have S3 := (S2.alloc (.cells #[.int .i64 x.1, .int .i64 x.2.1] 26)).step hb3
  have B3 := below_step (B2.alloc B2.size _) hb3
  have D13 := (D12.alloc (.cells #[.int .i64 x.1, .int .i64 x.2.1] 26)).step hb3
  have D23 := (At.new w2 26 #[.int .i64 x.1, .int .i64 x.2.1]).step hb3
  clear S2 B2 D12
  clear hb3
  have c0 := S3.cell 0
  have c1 := S3.cell 1
  have l0 := S3.lt
  simp at c0 c1
  go_wp2_with fail
  clear c0 c1 l0
  refine (refNext_any p t a u true _).mono ?_; rintro e w4 ⟨rfl, hb4⟩
  rw [HY.out]
  have S4 := (S3.alloc (.cells #[.int .i64 y.1, .int .i64 y.2.1] 26)).step hb4
  have B4 := below_step (B3.alloc B3.size _) hb4
  have D14 := (D13.alloc (.cells #[.int .i64 y.1, .int .i64 y.2.1] 26)).step hb4
  have D24 := (D23.alloc (.cells #[.int .i64 y.1, .int .i64 y.2.1] 26)).step hb4
  have D34 := (At.new w3 26 #[.int .i64 y.1, .int .i64 y.2.1]).step hb4
  clear S3 B3 D13 D23
  clear hb4
  have c0 := S4.cell 0
  have c1 := S4.cell 1
  have l0 := S4.lt
  simp at c0 c1
  go_upto_region 5 with fail
  clear c0 c1 l0
  obtain ⟨W5, hW5⟩ : ∃ W5, W5 = w4.alloc (.cells #[.int .i64 y.1, .int .i64 y.2.1] 26) := ⟨_, rfl⟩
  have S5 : At W5 w.heap.size 26 #[.int .i64 p, .int .i64 t] := by rw [hW5]; exact S4.alloc _
  have D15 : At W5 w1.heap.size 26 #[.int .i64 x.1, .int .i64 x.2.1] := by rw [hW5]; exact D14.alloc _
  have D25 : At W5 w2.heap.size 26 #[.int .i64 x.1, .int .i64 x.2.1] := by rw [hW5]; exact D24.alloc _
  have D35 : At W5 w3.heap.size 26 #[.int .i64 y.1, .int .i64 y.2.1] := by rw [hW5]; exact D34.alloc _
  have D45 : At W5 w4.heap.size 26 #[.int .i64 y.1, .int .i64 y.2.1] := by rw [hW5]; exact At.new _ _ _
  have B5 : Below w.heap.size w W5 := by rw [hW5]; exact B4.alloc B4.size _
  rw [← hW5]
  clear hW5 S4 D14 D24 D34 B4
  generalize x.1 = x1 at *
  generalize x.2.1 = x2 at *
  generalize x.2.2 = x3 at *
  generalize y.1 = y1 at *
  generalize y.2.1 = y2 at *
  generalize y.2.2 = y3 at *
  have zx1 := Z.out x1
  have zx2 := Z.out x2
  have zx3 := Z.out x3
  have zy1 := Z.out y1
  have zy2 := Z.out y2
  have zy3 := Z.out y3
  have HS := Lib.hid (show ∀ w' : World, Below W5.heap.size W5 w' → (w'.cell? ⟨w.heap.size, 0, none⟩ = some (.int .i64 p) ∧ w'.cell? ⟨w.heap.size, 1, none⟩ = some (.int .i64 t) ∧ w'.cell? ⟨w1.heap.size, 0, none⟩ = some (.int .i64 x1) ∧ w'.cell? ⟨w1.heap.size, 1, none⟩ = some (.int .i64 x2) ∧ w'.cell? ⟨w2.heap.size, 0, none⟩ = some (.int .i64 x1) ∧ w'.cell? ⟨w2.heap.size, 1, none⟩ = some (.int .i64 x2) ∧ w'.cell? ⟨w3.heap.size, 0, none⟩ = some (.int .i64 y1) ∧ w'.cell? ⟨w3.heap.size, 1, none⟩ = some (.int .i64 y2) ∧ w'.cell? ⟨w4.heap.size, 0, none⟩ = some (.int .i64 y1) ∧ w'.cell? ⟨w4.heap.size, 1, none⟩ = some (.int .i64 y2)) from fun w' hb => ⟨(S5.step hb).cell 0, (S5.step hb).cell 1, (D15.step hb).cell 0, (D15.step hb).cell 1, (D25.step hb).cell 0, (D25.step hb).cell 1, (D35.step hb).cell 0, (D35.step hb).cell 1, (D45.step hb).cell 0, (D45.step hb).cell 1⟩)
  obtain ⟨k1, k2, k3, k4, k5, k6, k7, k8, k9, k10⟩ := HS.out W5 (Below.refl _ _)
  clear S5 D15 D25 D35 D45
  go_region_held3 (fun w' => w'.cell? ⟨w.heap.size, 0, none⟩ = some (.int .i64 p) ∧ w'.cell? ⟨w.heap.size, 1, none⟩ = some (.int .i64 t) ∧ w'.cell? ⟨w1.heap.size, 0, none⟩ = some (.int .i64 x1) ∧ w'.cell? ⟨w1.heap.size, 1, none⟩ = some (.int .i64 x2) ∧ w'.cell? ⟨w2.heap.size, 0, none⟩ = some (.int .i64 x1) ∧ w'.cell? ⟨w2.heap.size, 1, none⟩ = some (.int .i64 x2) ∧ w'.cell? ⟨w3.heap.size, 0, none⟩ = some (.int .i64 y1) ∧ w'.cell? ⟨w3.heap.size, 1, none⟩ = some (.int .i64 y2) ∧ w'.cell? ⟨w4.heap.size, 0, none⟩ = some (.int .i64 y1) ∧ w'.cell? ⟨w4.heap.size, 1, none⟩ = some (.int .i64 y2))
    (first | exact ⟨k1, k2, k3, k4, k5, k6, k7, k8, k9, k10⟩ | exact HS.out _ (by (repeat (first | with_reducible assumption | with_reducible exact Below.refl _ _ | with_reducible refine Below.drew ?_ | with_reducible refine below_drewN ?_ _))))
    (first
      | (go_at_call 17; refine (check_bel p t _).mono ?_; rintro e v1 ⟨rfl, hv1⟩; have Q1 : Below W5.heap.size W5 v1 := below_step (by (repeat (first | with_reducible assumption | with_reducible exact Below.refl _ _ | with_reducible refine Below.drew ?_ | with_reducible refine below_drewN ?_ _))) hv1; clear hv1)
      | (go_at_call 24; refine (refCheck_any p t _).mono ?_; rintro e v2 ⟨rfl, hv2⟩; have Q2 : Below W5.heap.size W5 v2 := below_step (by (repeat (first | with_reducible assumption | with_reducible exact Below.refl _ _ | with_reducible refine Below.drew ?_ | with_reducible refine below_drewN ?_ _))) hv2; clear hv2; have zb := ZB.out (checkB p t))
      | (go_at_call 14; refine (need_any a u _).mono ?_; rintro e v3 ⟨rfl, hv3⟩; have Q3 : Below W5.heap.size W5 v3 := below_step (by (repeat (first | with_reducible assumption | with_reducible exact Below.refl _ _ | with_reducible refine Below.drew ?_ | with_reducible refine below_drewN ?_ _))) hv3; clear hv3)
      | (go_at_call 25; refine (refNeed_any a u _).mono ?_; rintro e w' ⟨rfl, rfl⟩; have zn := Z.out (needV a u))
      | (go_at_call 21; refine (keep_any a u _).mono ?_; rintro e w' ⟨rfl, rfl⟩)
      | (go_at_call 26; refine (refKeep_any a u _).mono ?_; rintro e w' ⟨rfl, rfl⟩; have zk := Z.out (keepV a u))
      | (go_at_call 15; refine (bought_any a u _ a1).mono ?_; rintro e w' ⟨rfl, rfl⟩)
      | (go_at_call 27; refine (refBought_any a u _ a1).mono ?_; rintro e w' ⟨rfl, rfl⟩; have zo := Z.out (boughtV a u))
      | (go_at_call 16; refine (room_any p t a _).mono ?_; rintro e v9 ⟨rfl, hv9⟩; have Q9 : Below W5.heap.size W5 v9 := below_step (by (repeat (first | with_reducible assumption | with_reducible exact Below.refl _ _ | with_reducible refine Below.drew ?_ | with_reducible refine below_drewN ?_ _))) hv9; clear hv9)
      | (go_at_call 28; refine (refRoom_any p t a _).mono ?_; rintro e v10 ⟨rfl, hv10⟩; have Q10 : Below W5.heap.size W5 v10 := below_step (by (repeat (first | with_reducible assumption | with_reducible exact Below.refl _ _ | with_reducible refine Below.drew ?_ | with_reducible refine below_drewN ?_ _))) hv10; clear hv10; have zr := Z.out (roomV p t a)))
  all_goals
    go_wp2_with fail
    go_ret
    refine ⟨rfl, ?_⟩
    exact below_step B5 (by (repeat (first | with_reducible assumption | with_reducible exact Below.refl _ _ | with_reducible refine Below.drew ?_ | with_reducible refine below_drewN ?_ _)))
end Go.Proofs.Ytidhleeoeapjmaa
