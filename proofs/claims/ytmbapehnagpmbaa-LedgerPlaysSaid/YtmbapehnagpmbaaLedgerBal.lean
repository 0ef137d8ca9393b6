/- The contract of package ledger's Balanced: an account that may be is balanced, and no other. -/
import Derived.Test.YtmbapehnagpmbaaLedgerRef2
import Derived.Test.YtmbapehnagpmbaaHeldSkip
namespace Go.Proofs.Ytmbapehnagpmbaa
open Go.RowKit
set_option linter.unusedVariables false

set_option maxHeartbeats 800000 in
theorem bal_bad (n i h : Int) (s : Bool) (p b d : Int) (w : World) (hc : Acc.ok ⟨n, i, h, s, p, b, d⟩ = false) :
    Calls Try.prog 17 #[.agg #[.int .i64 n, .int .i64 i, .int .i64 h, .bool s, .int .i64 p, .int .i64 b, .int .i64 d]] w fun e w' => e = .returned (.bool false) ∧ Below w.heap.size w w' := by
  have HC := Lib.hid hc
  clear hc
  go_enter Try.func17, Try.ntmps17
  go_wp2_with fail
  obtain ⟨W1, hW1⟩ : ∃ W1, W1 = w.alloc (.cells #[.int .i64 n, .int .i64 i, .int .i64 h, .bool s, .int .i64 p, .int .i64 b, .int .i64 d] 24) := ⟨_, rfl⟩
  rw [← hW1]
  have AW : At W1 w.heap.size 24 #[.int .i64 n, .int .i64 i, .int .i64 h, .bool s, .int .i64 p, .int .i64 b, .int .i64 d] := by rw [hW1]; exact At.new _ _ _
  have B1 : Below w.heap.size w W1 := by rw [hW1]; exact (Below.refl _ _).alloc (Nat.le_refl _) _
  clear hW1
  refine wp_region_held_drew (S := fun w' => w'.cell? ⟨w.heap.size, 0, none⟩ = some (.int .i64 n) ∧ w'.cell? ⟨w.heap.size, 1, none⟩ = some (.int .i64 i) ∧ w'.cell? ⟨w.heap.size, 2, none⟩ = some (.int .i64 h) ∧ w'.cell? ⟨w.heap.size, 3, none⟩ = some (.bool s) ∧ w'.cell? ⟨w.heap.size, 4, none⟩ = some (.int .i64 p) ∧ w'.cell? ⟨w.heap.size, 5, none⟩ = some (.int .i64 b) ∧ w'.cell? ⟨w.heap.size, 6, none⟩ = some (.int .i64 d)) (by kernel_rfl) (cells7 AW.drew) (fun hHeld => ?_)
  refine held_start 19 #[false, false, false, false, false, false, false, false, false, false, false, false, false, false, false, false, false, false, false] (by kernel_rfl) (by kernel_rfl) ?_
  refine held_take 0 3 ?_ #[true, false, false, false, false, false, false, false, false, false, false, false, false, false, false, false, false, false, false] (by kernel_rfl) (by kernel_rfl) (by kernel_rfl) (by kernel_rfl) (by rfl) (by kernel_rfl) (fun _ _ _ h => h) ?_ hHeld ?_
  case refine_2 =>
    intro w hSw; (try dsimp only at hSw); go_simp
    try with_reducible rfl
  (try simp only [Act.put, List.setIfInBounds_toArray, List.set_cons_zero, List.set_cons_succ])
  refine held_call 1 4 16 #[.agg #[.int .i64 n, .int .i64 i, .int .i64 h, .bool s, .int .i64 p, .int .i64 b, .int .i64 d]] #[true, true, false, false, false, false, false, false, false, false, false, false, false, false, false, false, false, false, false] (fun v w' => v = .bool false ∧ Below W1.drew.heap.size W1.drew w') (by kernel_rfl) (by kernel_rfl) (by rfl) (by kernel_rfl) ?_ ?_
  · intro K hK
    go_simp
    refine (check_any n i h s p b d _).mono ?_; rintro e v1 ⟨rfl, hv1⟩; rw [HC.out]
    exact hK _ _ ⟨rfl, hv1⟩
  rintro v w2 ⟨rfl, hv1⟩
  refine ⟨cells7 (AW.drew.step hv1), ?_⟩
  have hHeld := cells7 (AW.drew.step hv1)
  (try simp only [Act.put, List.setIfInBounds_toArray, List.set_cons_zero, List.set_cons_succ])
  refine held_take 2 5 ?_ #[true, true, true, false, false, false, false, false, false, false, false, false, false, false, false, false, false, false, false] (by kernel_rfl) (by kernel_rfl) (by kernel_rfl) (by kernel_rfl) (by rfl) (by kernel_rfl) (fun _ _ _ h => h) ?_ hHeld ?_
  case refine_2 =>
    intro w hSw; (try dsimp only at hSw); go_simp
    try with_reducible rfl
  (try simp only [Act.put, List.setIfInBounds_toArray, List.set_cons_zero, List.set_cons_succ])
  refine held_skip 3 6 #[true, true, true, true, false, false, false, false, false, false, false, false, false, false, false, false, false, false, false] (by kernel_rfl) (by kernel_rfl) (by kernel_rfl) (by kernel_rfl) (by rfl) (by kernel_rfl) (fun _ _ _ h => h) hHeld ?_
  (try simp only [Act.put, List.setIfInBounds_toArray, List.set_cons_zero, List.set_cons_succ])
  refine held_skip 4 7 #[true, true, true, true, true, false, false, false, false, false, false, false, false, false, false, false, false, false, false] (by kernel_rfl) (by kernel_rfl) (by kernel_rfl) (by kernel_rfl) (by rfl) (by kernel_rfl) (fun _ _ _ h => h) hHeld ?_
  (try simp only [Act.put, List.setIfInBounds_toArray, List.set_cons_zero, List.set_cons_succ])
  refine held_skip 5 8 #[true, true, true, true, true, true, false, false, false, false, false, false, false, false, false, false, false, false, false] (by kernel_rfl) (by kernel_rfl) (by kernel_rfl) (by kernel_rfl) (by rfl) (by kernel_rfl) (fun _ _ _ h => h) hHeld ?_
  (try simp only [Act.put, List.setIfInBounds_toArray, List.set_cons_zero, List.set_cons_succ])
  refine held_skip 6 9 #[true, true, true, true, true, true, true, false, false, false, false, false, false, false, false, false, false, false, false] (by kernel_rfl) (by kernel_rfl) (by kernel_rfl) (by kernel_rfl) (by rfl) (by kernel_rfl) (fun _ _ _ h => h) hHeld ?_
  (try simp only [Act.put, List.setIfInBounds_toArray, List.set_cons_zero, List.set_cons_succ])
  refine held_skip 7 10 #[true, true, true, true, true, true, true, true, false, false, false, false, false, false, false, false, false, false, false] (by kernel_rfl) (by kernel_rfl) (by kernel_rfl) (by kernel_rfl) (by rfl) (by kernel_rfl) (fun _ _ _ h => h) hHeld ?_
  (try simp only [Act.put, List.setIfInBounds_toArray, List.set_cons_zero, List.set_cons_succ])
  refine held_skip 8 11 #[true, true, true, true, true, true, true, true, true, false, false, false, false, false, false, false, false, false, false] (by kernel_rfl) (by kernel_rfl) (by kernel_rfl) (by kernel_rfl) (by rfl) (by kernel_rfl) (fun _ _ _ h => h) hHeld ?_
  (try simp only [Act.put, List.setIfInBounds_toArray, List.set_cons_zero, List.set_cons_succ])
  refine held_skip 9 12 #[true, true, true, true, true, true, true, true, true, true, false, false, false, false, false, false, false, false, false] (by kernel_rfl) (by kernel_rfl) (by kernel_rfl) (by kernel_rfl) (by rfl) (by kernel_rfl) (fun _ _ _ h => h) hHeld ?_
  (try simp only [Act.put, List.setIfInBounds_toArray, List.set_cons_zero, List.set_cons_succ])
  refine held_skip 10 13 #[true, true, true, true, true, true, true, true, true, true, true, false, false, false, false, false, false, false, false] (by kernel_rfl) (by kernel_rfl) (by kernel_rfl) (by kernel_rfl) (by rfl) (by kernel_rfl) (fun _ _ _ h => h) hHeld ?_
  (try simp only [Act.put, List.setIfInBounds_toArray, List.set_cons_zero, List.set_cons_succ])
  refine held_skip 11 14 #[true, true, true, true, true, true, true, true, true, true, true, true, false, false, false, false, false, false, false] (by kernel_rfl) (by kernel_rfl) (by kernel_rfl) (by kernel_rfl) (by rfl) (by kernel_rfl) (fun _ _ _ h => h) hHeld ?_
  (try simp only [Act.put, List.setIfInBounds_toArray, List.set_cons_zero, List.set_cons_succ])
  refine held_skip 12 15 #[true, true, true, true, true, true, true, true, true, true, true, true, true, false, false, false, false, false, false] (by kernel_rfl) (by kernel_rfl) (by kernel_rfl) (by kernel_rfl) (by rfl) (by kernel_rfl) (fun _ _ _ h => h) hHeld ?_
  (try simp only [Act.put, List.setIfInBounds_toArray, List.set_cons_zero, List.set_cons_succ])
  refine held_skip 13 16 #[true, true, true, true, true, true, true, true, true, true, true, true, true, true, false, false, false, false, false] (by kernel_rfl) (by kernel_rfl) (by kernel_rfl) (by kernel_rfl) (by rfl) (by kernel_rfl) (fun _ _ _ h => h) hHeld ?_
  (try simp only [Act.put, List.setIfInBounds_toArray, List.set_cons_zero, List.set_cons_succ])
  refine held_skip 14 17 #[true, true, true, true, true, true, true, true, true, true, true, true, true, true, true, false, false, false, false] (by kernel_rfl) (by kernel_rfl) (by kernel_rfl) (by kernel_rfl) (by rfl) (by kernel_rfl) (fun _ _ _ h => h) hHeld ?_
  (try simp only [Act.put, List.setIfInBounds_toArray, List.set_cons_zero, List.set_cons_succ])
  refine held_skip 15 18 #[true, true, true, true, true, true, true, true, true, true, true, true, true, true, true, true, false, false, false] (by kernel_rfl) (by kernel_rfl) (by kernel_rfl) (by kernel_rfl) (by rfl) (by kernel_rfl) (fun _ _ _ h => h) hHeld ?_
  (try simp only [Act.put, List.setIfInBounds_toArray, List.set_cons_zero, List.set_cons_succ])
  refine held_skip 16 19 #[true, true, true, true, true, true, true, true, true, true, true, true, true, true, true, true, true, false, false] (by kernel_rfl) (by kernel_rfl) (by kernel_rfl) (by kernel_rfl) (by rfl) (by kernel_rfl) (fun _ _ _ h => h) hHeld ?_
  (try simp only [Act.put, List.setIfInBounds_toArray, List.set_cons_zero, List.set_cons_succ])
  refine held_take 17 20 ?_ #[true, true, true, true, true, true, true, true, true, true, true, true, true, true, true, true, true, true, false] (by kernel_rfl) (by kernel_rfl) (by kernel_rfl) (by kernel_rfl) (by rfl) (by kernel_rfl) (fun _ _ _ h => h) ?_ hHeld ?_
  case refine_2 =>
    intro w hSw; (try dsimp only at hSw); go_simp
    try with_reducible rfl
  (try simp only [Act.put, List.setIfInBounds_toArray, List.set_cons_zero, List.set_cons_succ])
  refine held_take 18 2 ?_ #[true, true, true, true, true, true, true, true, true, true, true, true, true, true, true, true, true, true, true] (by kernel_rfl) (by kernel_rfl) (by kernel_rfl) (by kernel_rfl) (by rfl) (by kernel_rfl) (fun _ _ _ h => h) ?_ hHeld ?_
  case refine_2 =>
    intro w hSw; (try dsimp only at hSw); go_simp
    try with_reducible rfl
  (try simp only [Act.put, List.setIfInBounds_toArray, List.set_cons_zero, List.set_cons_succ])
  refine wpAnyH_done (by kernel_rfl) ?_ _
  go_wp2_with fail
  go_ret
  exact ⟨rfl, below_step B1.drew hv1⟩

set_option maxHeartbeats 3200000 in
theorem bal_any (n i h : Int) (s : Bool) (p b d : Int) (w : World) :
    Calls Try.prog 17 #[.agg #[.int .i64 n, .int .i64 i, .int .i64 h, .bool s, .int .i64 p, .int .i64 b, .int .i64 d]] w fun e w' => e = .returned (.bool (Acc.ok ⟨n, i, h, s, p, b, d⟩)) ∧ Below w.heap.size w w' := by
  cases hc : Acc.ok ⟨n, i, h, s, p, b, d⟩
  · exact bal_bad n i h s p b d w hc
  have HC := Lib.hid hc
  cases s
  · obtain ⟨⟨i0, i1⟩, ⟨h0, h1⟩, hp, hb, hd⟩ := good_open hc
    have FV := Lib.hid (show freeV n i h false p b d = i - h by unfold freeV; rw [if_pos ⟨hc, rfl⟩])
    have W9 := Lib.hid (show (i == IntKind.i64.wrap (IntKind.i64.wrap (IntKind.i64.wrap 0 + h) + (i - h))) = true by
      have e0 : IntKind.i64.wrap 0 = 0 := IntWalk.i64_in _ ⟨by omega, by omega⟩
      have e1 : IntKind.i64.wrap (0 + h) = h := by rw [Int.zero_add]; exact IntWalk.i64_in _ ⟨by omega, by omega⟩
      rw [e0, e1, IntWalk.i64_in (h + (i - h)) ⟨by omega, by omega⟩, beq_iff_eq]
      omega)
    subst hp hb hd
    clear hc
    go_enter Try.func17, Try.ntmps17
    go_wp2_with fail
    obtain ⟨W1, hW1⟩ : ∃ W1, W1 = w.alloc (.cells #[.int .i64 n, .int .i64 i, .int .i64 h, .bool false, .int .i64 0, .int .i64 0, .int .i64 0] 24) := ⟨_, rfl⟩
    rw [← hW1]
    have AW : At W1 w.heap.size 24 #[.int .i64 n, .int .i64 i, .int .i64 h, .bool false, .int .i64 0, .int .i64 0, .int .i64 0] := by rw [hW1]; exact At.new _ _ _
    have B1 : Below w.heap.size w W1 := by rw [hW1]; exact (Below.refl _ _).alloc (Nat.le_refl _) _
    clear hW1
    have HS := Lib.hid (show ∀ w' : World, Below W1.heap.size W1 w' → (w'.cell? ⟨w.heap.size, 0, none⟩ = some (.int .i64 n) ∧ w'.cell? ⟨w.heap.size, 1, none⟩ = some (.int .i64 i) ∧ w'.cell? ⟨w.heap.size, 2, none⟩ = some (.int .i64 h) ∧ w'.cell? ⟨w.heap.size, 3, none⟩ = some (.bool false) ∧ w'.cell? ⟨w.heap.size, 4, none⟩ = some (.int .i64 0) ∧ w'.cell? ⟨w.heap.size, 5, none⟩ = some (.int .i64 0) ∧ w'.cell? ⟨w.heap.size, 6, none⟩ = some (.int .i64 0)) from fun w' hb => cells7 (AW.step hb))
    obtain ⟨k0, k1, k2, k3, k4, k5, k6⟩ := HS.out W1 (Below.refl _ _)
    clear AW
    go_region_held3 (fun w' => w'.cell? ⟨w.heap.size, 0, none⟩ = some (.int .i64 n) ∧ w'.cell? ⟨w.heap.size, 1, none⟩ = some (.int .i64 i) ∧ w'.cell? ⟨w.heap.size, 2, none⟩ = some (.int .i64 h) ∧ w'.cell? ⟨w.heap.size, 3, none⟩ = some (.bool false) ∧ w'.cell? ⟨w.heap.size, 4, none⟩ = some (.int .i64 0) ∧ w'.cell? ⟨w.heap.size, 5, none⟩ = some (.int .i64 0) ∧ w'.cell? ⟨w.heap.size, 6, none⟩ = some (.int .i64 0))
      (first | exact ⟨k0, k1, k2, k3, k4, k5, k6⟩ | exact HS.out _ (by (repeat (first | with_reducible assumption | with_reducible exact Below.refl _ _ | with_reducible refine Below.drew ?_ | with_reducible refine below_drewN ?_ _))))
      (first
        | (go_at_call 16; refine (check_any n i h false 0 0 0 _).mono ?_; rintro e v1 ⟨rfl, hv1⟩; have Q1 : Below W1.heap.size W1 v1 := below_step (by (repeat (first | with_reducible assumption | with_reducible exact Below.refl _ _ | with_reducible refine Below.drew ?_ | with_reducible refine below_drewN ?_ _))) hv1; clear hv1; rw [HC.out])
        | (go_at_call 13; refine (free_any n i h false 0 0 0 _).mono ?_; rintro e v2 ⟨rfl, hv2⟩; have Q2 : Below W1.heap.size W1 v2 := below_step (by (repeat (first | with_reducible assumption | with_reducible exact Below.refl _ _ | with_reducible refine Below.drew ?_ | with_reducible refine below_drewN ?_ _))) hv2; clear hv2; rw [FV.out]))
    all_goals
      go_wp2_with fail
      go_ret
      refine ⟨?_, below_step B1 (by (repeat (first | with_reducible assumption | with_reducible exact Below.refl _ _ | with_reducible refine Below.drew ?_ | with_reducible refine below_drewN ?_ _)))⟩
      show Ending.returned (.bool (i == IntKind.i64.wrap (IntKind.i64.wrap (IntKind.i64.wrap 0 + h) + (i - h)))) = _
      rw [W9.out]
  · obtain ⟨⟨i0, i1⟩, hh, ⟨p0, p1⟩, ⟨b0, b1⟩, _, hs⟩ := good_set hc
    have FV := Lib.hid (show freeV n i h true p b d = 0 by unfold freeV; rw [if_neg (by simp)])
    have w9 : IntKind.i64.wrap (p + b) = i := by rw [IntWalk.i64_in _ ⟨by omega, by omega⟩]; omega
    have w8 : IntKind.i64.wrap i = i := IntWalk.i64_in _ ⟨by omega, by omega⟩
    have z1 : (i == i) = true := beq_self_eq_true i
    subst hh
    clear hc hs
    go_enter Try.func17, Try.ntmps17
    go_wp2_with fail
    obtain ⟨W1, hW1⟩ : ∃ W1, W1 = w.alloc (.cells #[.int .i64 n, .int .i64 i, .int .i64 0, .bool true, .int .i64 p, .int .i64 b, .int .i64 d] 24) := ⟨_, rfl⟩
    rw [← hW1]
    have AW : At W1 w.heap.size 24 #[.int .i64 n, .int .i64 i, .int .i64 0, .bool true, .int .i64 p, .int .i64 b, .int .i64 d] := by rw [hW1]; exact At.new _ _ _
    have B1 : Below w.heap.size w W1 := by rw [hW1]; exact (Below.refl _ _).alloc (Nat.le_refl _) _
    clear hW1
    have HS := Lib.hid (show ∀ w' : World, Below W1.heap.size W1 w' → (w'.cell? ⟨w.heap.size, 0, none⟩ = some (.int .i64 n) ∧ w'.cell? ⟨w.heap.size, 1, none⟩ = some (.int .i64 i) ∧ w'.cell? ⟨w.heap.size, 2, none⟩ = some (.int .i64 0) ∧ w'.cell? ⟨w.heap.size, 3, none⟩ = some (.bool true) ∧ w'.cell? ⟨w.heap.size, 4, none⟩ = some (.int .i64 p) ∧ w'.cell? ⟨w.heap.size, 5, none⟩ = some (.int .i64 b) ∧ w'.cell? ⟨w.heap.size, 6, none⟩ = some (.int .i64 d)) from fun w' hb => cells7 (AW.step hb))
    obtain ⟨k0, k1, k2, k3, k4, k5, k6⟩ := HS.out W1 (Below.refl _ _)
    clear AW
    go_region_held3 (fun w' => w'.cell? ⟨w.heap.size, 0, none⟩ = some (.int .i64 n) ∧ w'.cell? ⟨w.heap.size, 1, none⟩ = some (.int .i64 i) ∧ w'.cell? ⟨w.heap.size, 2, none⟩ = some (.int .i64 0) ∧ w'.cell? ⟨w.heap.size, 3, none⟩ = some (.bool true) ∧ w'.cell? ⟨w.heap.size, 4, none⟩ = some (.int .i64 p) ∧ w'.cell? ⟨w.heap.size, 5, none⟩ = some (.int .i64 b) ∧ w'.cell? ⟨w.heap.size, 6, none⟩ = some (.int .i64 d))
      (first | exact ⟨k0, k1, k2, k3, k4, k5, k6⟩ | exact HS.out _ (by (repeat (first | with_reducible assumption | with_reducible exact Below.refl _ _ | with_reducible refine Below.drew ?_ | with_reducible refine below_drewN ?_ _))))
      (first
        | (go_at_call 16; refine (check_any n i 0 true p b d _).mono ?_; rintro e v1 ⟨rfl, hv1⟩; have Q1 : Below W1.heap.size W1 v1 := below_step (by (repeat (first | with_reducible assumption | with_reducible exact Below.refl _ _ | with_reducible refine Below.drew ?_ | with_reducible refine below_drewN ?_ _))) hv1; clear hv1; rw [HC.out])
        | (go_at_call 13; refine (free_any n i 0 true p b d _).mono ?_; rintro e v2 ⟨rfl, hv2⟩; have Q2 : Below W1.heap.size W1 v2 := below_step (by (repeat (first | with_reducible assumption | with_reducible exact Below.refl _ _ | with_reducible refine Below.drew ?_ | with_reducible refine below_drewN ?_ _))) hv2; clear hv2; rw [FV.out]))
    all_goals
      go_wp2_with fail
      go_ret
      exact ⟨rfl, below_step B1 (by (repeat (first | with_reducible assumption | with_reducible exact Below.refl _ _ | with_reducible refine Below.drew ?_ | with_reducible refine below_drewN ?_ _)))⟩

end Go.Proofs.Ytmbapehnagpmbaa
