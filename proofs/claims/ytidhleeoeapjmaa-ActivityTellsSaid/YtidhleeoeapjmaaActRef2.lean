/- The contracts of the reference's Room and Next of chapter 17 (package vendueref17). -/
import Derived.Test.YtidhleeoeapjmaaActRef
namespace Go.Proofs.Ytidhleeoeapjmaa
open Go.RowKit
set_option linter.unusedVariables false

theorem refRoom_any (p t a : Int) (w : World) :
    Calls Try.prog 28 #[.agg #[.int .i64 p, .int .i64 t], .int .i64 a] w fun e w' => e = .returned (.int .i64 (roomV p t a)) ∧ Below w.heap.size w w' := by
  cases hc : checkB p t
  · have H := Lib.hid (show roomV p t a = 0 by unfold roomV; rw [if_neg (by rw [hc]; simp)])
    have HC := Lib.hid hc
    clear hc
    go_enter Try.func28, Try.ntmps28
    go_wp2_with fail
    refine (refCheck_any p t _).mono ?_; rintro e w1 ⟨rfl, hb1⟩
    have P1 := (At.new w 26 #[.int .i64 p, .int .i64 t]).step hb1
    have B1 := below_step ((Below.refl _ _).alloc (Nat.le_refl _) _) hb1
    have c0 := P1.cell 0
    simp at c0
    rw [HC.out]
    go_wp2_with fail
    refine (refPts_any a _).mono ?_; rintro e w' ⟨rfl, rfl⟩
    go_wp2_with fail
    go_ret
    exact ⟨by rw [H.out]; rfl, B1⟩
  cases hp : ptsB a
  · have H := Lib.hid (show roomV p t a = 0 by unfold roomV; rw [if_neg (by rw [right_two, hp]; simp)])
    have HC := Lib.hid hc
    have HP := Lib.hid hp
    clear hc hp
    go_enter Try.func28, Try.ntmps28
    go_wp2_with fail
    refine (refCheck_any p t _).mono ?_; rintro e w1 ⟨rfl, hb1⟩
    have P1 := (At.new w 26 #[.int .i64 p, .int .i64 t]).step hb1
    have B1 := below_step ((Below.refl _ _).alloc (Nat.le_refl _) _) hb1
    have c0 := P1.cell 0
    simp at c0
    rw [HC.out]
    go_wp2_with fail
    refine (refPts_any a _).mono ?_; rintro e w' ⟨rfl, rfl⟩
    rw [HP.out]
    go_wp2_with fail
    go_ret
    exact ⟨by rw [H.out]; rfl, B1⟩
  have hr : rightB a 1 = true := by rw [right_two, hp]; rfl
  have hb := check_yes hc
  have hb2 := pts_yes hp
  by_cases h : p < a
  · have H := Lib.hid (show roomV p t a = 0 by unfold roomV; rw [if_pos ⟨hc, hr⟩, if_neg (by omega)])
    have HC := Lib.hid hc
    have HP := Lib.hid hp
    clear hc hp hr
    go_enter Try.func28, Try.ntmps28
    go_wp2_with fail
    refine (refCheck_any p t _).mono ?_; rintro e w1 ⟨rfl, hb1⟩
    have P1 := (At.new w 26 #[.int .i64 p, .int .i64 t]).step hb1
    have B1 := below_step ((Below.refl _ _).alloc (Nat.le_refl _) _) hb1
    have c0 := P1.cell 0
    simp at c0
    rw [HC.out]
    go_wp2_with fail
    refine (refPts_any a _).mono ?_; rintro e w' ⟨rfl, rfl⟩
    rw [HP.out]
    go_wp2_with fail
    go_ret
    exact ⟨by rw [H.out]; rfl, B1⟩
  · have H := Lib.hid (show roomV p t a = p - a by unfold roomV; rw [if_pos ⟨hc, hr⟩, if_pos (by omega)])
    have HC := Lib.hid hc
    have HP := Lib.hid hp
    clear hc hp hr
    go_enter Try.func28, Try.ntmps28
    go_wp2_with fail
    refine (refCheck_any p t _).mono ?_; rintro e w1 ⟨rfl, hb1⟩
    have P1 := (At.new w 26 #[.int .i64 p, .int .i64 t]).step hb1
    have B1 := below_step ((Below.refl _ _).alloc (Nat.le_refl _) _) hb1
    have c0 := P1.cell 0
    simp at c0
    rw [HC.out]
    go_wp2_with fail
    refine (refPts_any a _).mono ?_; rintro e w' ⟨rfl, rfl⟩
    rw [HP.out]
    go_wp2_with fail
    go_ret
    exact ⟨by rw [H.out]; rfl, B1⟩

set_option maxHeartbeats 3200000 in
theorem refNext_any (p t a u : Int) (asked : Bool) (w : World) :
    Calls Try.prog 23 #[.agg #[.int .i64 p, .int .i64 t], .int .i64 a, .int .i64 u, .bool asked] w fun e w' =>
      e = .returned (.tuple #[.agg #[.int .i64 (nextR p t a u asked).1, .int .i64 (nextR p t a u asked).2.1], .int .i64 (nextR p t a u asked).2.2]) ∧ Below w.heap.size w w' := by
  cases hc : checkB p t
  · have H := Lib.hid (show nextR p t a u asked = (0, 0, 1) by unfold nextR; rw [if_neg (by rw [hc]; simp)])
    have HC := Lib.hid hc
    clear hc
    go_enter Try.func23, Try.ntmps23
    go_wp2_with fail
    refine (refCheck_any p t _).mono ?_; rintro e w1 ⟨rfl, hb1⟩
    have P1 := ((At.new w 26 #[.int .i64 p, .int .i64 t]).alloc (.cells #[.int .i64 0, .int .i64 0] 26)).step hb1
    have R1 := (At.new (w.alloc (.cells #[.int .i64 p, .int .i64 t] 26)) 26 #[.int .i64 0, .int .i64 0]).step hb1
    simp only [World.size_alloc] at R1
    have B1 := below_step (((Below.refl _ _).alloc (Nat.le_refl _) _).alloc (by simp) _) hb1
    have c0 := P1.cell 0
    have c1 := P1.cell 1
    have r0 := R1.cell 0
    have r1 := R1.cell 1
    have f0 := P1.free 0
    have f1 := P1.free 1
    have g0 := R1.free 0
    have g1 := R1.free 1
    simp at c0 c1 r0 r1
    clear hb1
    rw [HC.out]
    go_wp2_with fail
    refine (refPts_any a _).mono ?_; rintro e w' ⟨rfl, rfl⟩
    go_wp2_with fail
    refine (refUse_any u _).mono ?_; rintro e w' ⟨rfl, rfl⟩
    go_wp2_with fail
    have F := (At.put R1 0 (.int .i64 (0))).put 1 (.int .i64 (0))
    have q0 := F.cell 0
    have q1 := F.cell 1
    simp at q0 q1
    exact bodyPost_ret (v := .tuple #[.agg #[.int .i64 (0), .int .i64 (0)], .int .i64 1]) (by simp [results, Try.results23, go_sem, q0, q1]) rfl ⟨by rw [H.out], Below.setCell (Below.setCell B1 (by first | (simp; done) | (simp; omega)) _) (by first | (simp; done) | (simp; omega)) _⟩
  cases hp : ptsB a
  · have H := Lib.hid (show nextR p t a u asked = (0, 0, 1) by unfold nextR; rw [if_neg (by rw [right_two, hp]; simp)])
    have HC := Lib.hid hc
    have HP := Lib.hid hp
    clear hc hp
    go_enter Try.func23, Try.ntmps23
    go_wp2_with fail
    refine (refCheck_any p t _).mono ?_; rintro e w1 ⟨rfl, hb1⟩
    have P1 := ((At.new w 26 #[.int .i64 p, .int .i64 t]).alloc (.cells #[.int .i64 0, .int .i64 0] 26)).step hb1
    have R1 := (At.new (w.alloc (.cells #[.int .i64 p, .int .i64 t] 26)) 26 #[.int .i64 0, .int .i64 0]).step hb1
    simp only [World.size_alloc] at R1
    have B1 := below_step (((Below.refl _ _).alloc (Nat.le_refl _) _).alloc (by simp) _) hb1
    have c0 := P1.cell 0
    have c1 := P1.cell 1
    have r0 := R1.cell 0
    have r1 := R1.cell 1
    have f0 := P1.free 0
    have f1 := P1.free 1
    have g0 := R1.free 0
    have g1 := R1.free 1
    simp at c0 c1 r0 r1
    clear hb1
    rw [HC.out]
    go_wp2_with fail
    refine (refPts_any a _).mono ?_; rintro e w' ⟨rfl, rfl⟩
    rw [HP.out]
    go_wp2_with fail
    refine (refUse_any u _).mono ?_; rintro e w' ⟨rfl, rfl⟩
    go_wp2_with fail
    have F := (At.put R1 0 (.int .i64 (0))).put 1 (.int .i64 (0))
    have q0 := F.cell 0
    have q1 := F.cell 1
    simp at q0 q1
    exact bodyPost_ret (v := .tuple #[.agg #[.int .i64 (0), .int .i64 (0)], .int .i64 1]) (by simp [results, Try.results23, go_sem, q0, q1]) rfl ⟨by rw [H.out], Below.setCell (Below.setCell B1 (by first | (simp; done) | (simp; omega)) _) (by first | (simp; done) | (simp; omega)) _⟩
  cases hu : useB u
  · have H := Lib.hid (show nextR p t a u asked = (0, 0, 1) by unfold nextR; rw [if_neg (by rw [right_two, hp, hu]; simp)])
    have HC := Lib.hid hc
    have HP := Lib.hid hp
    have HU := Lib.hid hu
    clear hc hp hu
    go_enter Try.func23, Try.ntmps23
    go_wp2_with fail
    refine (refCheck_any p t _).mono ?_; rintro e w1 ⟨rfl, hb1⟩
    have P1 := ((At.new w 26 #[.int .i64 p, .int .i64 t]).alloc (.cells #[.int .i64 0, .int .i64 0] 26)).step hb1
    have R1 := (At.new (w.alloc (.cells #[.int .i64 p, .int .i64 t] 26)) 26 #[.int .i64 0, .int .i64 0]).step hb1
    simp only [World.size_alloc] at R1
    have B1 := below_step (((Below.refl _ _).alloc (Nat.le_refl _) _).alloc (by simp) _) hb1
    have c0 := P1.cell 0
    have c1 := P1.cell 1
    have r0 := R1.cell 0
    have r1 := R1.cell 1
    have f0 := P1.free 0
    have f1 := P1.free 1
    have g0 := R1.free 0
    have g1 := R1.free 1
    simp at c0 c1 r0 r1
    clear hb1
    rw [HC.out]
    go_wp2_with fail
    refine (refPts_any a _).mono ?_; rintro e w' ⟨rfl, rfl⟩
    rw [HP.out]
    go_wp2_with fail
    refine (refUse_any u _).mono ?_; rintro e w' ⟨rfl, rfl⟩
    rw [HU.out]
    go_wp2_with fail
    have F := (At.put R1 0 (.int .i64 (0))).put 1 (.int .i64 (0))
    have q0 := F.cell 0
    have q1 := F.cell 1
    simp at q0 q1
    exact bodyPost_ret (v := .tuple #[.agg #[.int .i64 (0), .int .i64 (0)], .int .i64 1]) (by simp [results, Try.results23, go_sem, q0, q1]) rfl ⟨by rw [H.out], Below.setCell (Below.setCell B1 (by first | (simp; done) | (simp; omega)) _) (by first | (simp; done) | (simp; omega)) _⟩
  have hr : rightB a u = true := by rw [right_two, hp, hu]; rfl
  have hb := check_yes hc
  have hb2 := pts_yes hp
  have HC := Lib.hid hc
  have HP := Lib.hid hp
  have HU := Lib.hid hu
  cases asked
  · cases hl : lazyB a p u
    · have H := Lib.hid (show nextR p t a u false = (p, t, 0) by unfold nextR; rw [if_pos ⟨hc, hr⟩, if_neg (by simp), if_neg (by rw [hl]; simp)])
      have hn : needV p u ≤ a := by have := of_decide_eq_false hl; omega
      have hd : decide (a < needV p u) = false := hl
      clear hc hp hu hr hl
      go_enter Try.func23, Try.ntmps23
      go_wp2_with fail
      refine (refCheck_any p t _).mono ?_; rintro e w1 ⟨rfl, hb1⟩
      have P1 := ((At.new w 26 #[.int .i64 p, .int .i64 t]).alloc (.cells #[.int .i64 0, .int .i64 0] 26)).step hb1
      have R1 := (At.new (w.alloc (.cells #[.int .i64 p, .int .i64 t] 26)) 26 #[.int .i64 0, .int .i64 0]).step hb1
      simp only [World.size_alloc] at R1
      have B1 := below_step (((Below.refl _ _).alloc (Nat.le_refl _) _).alloc (by simp) _) hb1
      have c0 := P1.cell 0
      have c1 := P1.cell 1
      have r0 := R1.cell 0
      have r1 := R1.cell 1
      have f0 := P1.free 0
      have f1 := P1.free 1
      have g0 := R1.free 0
      have g1 := R1.free 1
      simp at c0 c1 r0 r1
      clear hb1
      rw [HC.out]
      go_wp2_with fail
      refine (refPts_any a _).mono ?_; rintro e w' ⟨rfl, rfl⟩
      rw [HP.out]
      go_wp2_with fail
      refine (refUse_any u _).mono ?_; rintro e w' ⟨rfl, rfl⟩
      rw [HU.out]
      go_wp2_with fail
      refine (refNeed_any p u _).mono ?_; rintro e w' ⟨rfl, rfl⟩
      go_wp2_with fail
      refine (refNeed_any p u _).mono ?_; rintro e w' ⟨rfl, rfl⟩
      go_wp2_with fail
      have F := (At.put R1 0 (.int .i64 (p))).put 1 (.int .i64 (t))
      have q0 := F.cell 0
      have q1 := F.cell 1
      simp at q0 q1
      exact bodyPost_ret (v := .tuple #[.agg #[.int .i64 (p), .int .i64 (t)], .int .i64 0]) (by simp [results, Try.results23, go_sem, q0, q1]) rfl ⟨by rw [H.out], Below.setCell (Below.setCell B1 (by first | (simp; done) | (simp; omega)) _) (by first | (simp; done) | (simp; omega)) _⟩
    · have hn : a < needV p u := of_decide_eq_true hl
      by_cases ht : 0 < t
      · have H := Lib.hid (show nextR p t a u false = (p, t - 1, 0) by unfold nextR; rw [if_pos ⟨hc, hr⟩, if_neg (by simp), if_pos hl, if_pos ht])
        clear hc hp hu hr hl
        go_enter Try.func23, Try.ntmps23
        go_wp2_with fail
        refine (refCheck_any p t _).mono ?_; rintro e w1 ⟨rfl, hb1⟩
        have P1 := ((At.new w 26 #[.int .i64 p, .int .i64 t]).alloc (.cells #[.int .i64 0, .int .i64 0] 26)).step hb1
        have R1 := (At.new (w.alloc (.cells #[.int .i64 p, .int .i64 t] 26)) 26 #[.int .i64 0, .int .i64 0]).step hb1
        simp only [World.size_alloc] at R1
        have B1 := below_step (((Below.refl _ _).alloc (Nat.le_refl _) _).alloc (by simp) _) hb1
        have c0 := P1.cell 0
        have c1 := P1.cell 1
        have r0 := R1.cell 0
        have r1 := R1.cell 1
        have f0 := P1.free 0
        have f1 := P1.free 1
        have g0 := R1.free 0
        have g1 := R1.free 1
        simp at c0 c1 r0 r1
        clear hb1
        rw [HC.out]
        go_wp2_with fail
        refine (refPts_any a _).mono ?_; rintro e w' ⟨rfl, rfl⟩
        rw [HP.out]
        go_wp2_with fail
        refine (refUse_any u _).mono ?_; rintro e w' ⟨rfl, rfl⟩
        rw [HU.out]
        go_wp2_with fail
        refine (refNeed_any p u _).mono ?_; rintro e w' ⟨rfl, rfl⟩
        have k0 := (P1.put 1 (.int .i64 (t - 1))).cell 0
        have k1 := (P1.put 1 (.int .i64 (t - 1))).cell 1
        simp at k0 k1
        go_wp2_with fail
        have F := (At.put (R1.far (p := ⟨w.heap.size, 1, none⟩) (by first | (simp; done) | (simp; omega)) (.int .i64 (t - 1))) 0 (.int .i64 (p))).put 1 (.int .i64 (t - 1))
        have q0 := F.cell 0
        have q1 := F.cell 1
        simp at q0 q1
        exact bodyPost_ret (v := .tuple #[.agg #[.int .i64 (p), .int .i64 (t - 1)], .int .i64 0]) (by simp [results, Try.results23, go_sem, q0, q1]) rfl ⟨by rw [H.out], Below.setCell (Below.setCell (B1.setCell (p := ⟨w.heap.size, 1, none⟩) (Nat.le_refl _) (.int .i64 (t - 1))) (by first | (simp; done) | (simp; omega)) _) (by first | (simp; done) | (simp; omega)) _⟩
      · by_cases hk : keepV a u < p
        · have H := Lib.hid (show nextR p t a u false = (keepV a u, t, 0) by unfold nextR; rw [if_pos ⟨hc, hr⟩, if_neg (by simp), if_pos hl, if_neg ht, if_pos hk])
          have hd : decide (0 < t) = false := decide_eq_false ht
          clear hc hp hu hr hl
          go_enter Try.func23, Try.ntmps23
          go_wp2_with fail
          refine (refCheck_any p t _).mono ?_; rintro e w1 ⟨rfl, hb1⟩
          have P1 := ((At.new w 26 #[.int .i64 p, .int .i64 t]).alloc (.cells #[.int .i64 0, .int .i64 0] 26)).step hb1
          have R1 := (At.new (w.alloc (.cells #[.int .i64 p, .int .i64 t] 26)) 26 #[.int .i64 0, .int .i64 0]).step hb1
          simp only [World.size_alloc] at R1
          have B1 := below_step (((Below.refl _ _).alloc (Nat.le_refl _) _).alloc (by simp) _) hb1
          have c0 := P1.cell 0
          have c1 := P1.cell 1
          have r0 := R1.cell 0
          have r1 := R1.cell 1
          have f0 := P1.free 0
          have f1 := P1.free 1
          have g0 := R1.free 0
          have g1 := R1.free 1
          simp at c0 c1 r0 r1
          clear hb1
          rw [HC.out]
          go_wp2_with fail
          refine (refPts_any a _).mono ?_; rintro e w' ⟨rfl, rfl⟩
          rw [HP.out]
          go_wp2_with fail
          refine (refUse_any u _).mono ?_; rintro e w' ⟨rfl, rfl⟩
          rw [HU.out]
          go_wp2_with fail
          refine (refNeed_any p u _).mono ?_; rintro e w' ⟨rfl, rfl⟩
          go_wp2_with fail
          refine (refNeed_any p u _).mono ?_; rintro e w' ⟨rfl, rfl⟩
          go_wp2_with fail
          refine (refKeep_any a u _).mono ?_; rintro e w' ⟨rfl, rfl⟩
          have k0 := (P1.put 0 (.int .i64 (keepV a u))).cell 0
          have k1 := (P1.put 0 (.int .i64 (keepV a u))).cell 1
          simp at k0 k1
          go_wp2_with fail
          have F := (At.put (R1.far (p := ⟨w.heap.size, 0, none⟩) (by first | (simp; done) | (simp; omega)) (.int .i64 (keepV a u))) 0 (.int .i64 (keepV a u))).put 1 (.int .i64 (t))
          have q0 := F.cell 0
          have q1 := F.cell 1
          simp at q0 q1
          exact bodyPost_ret (v := .tuple #[.agg #[.int .i64 (keepV a u), .int .i64 (t)], .int .i64 0]) (by simp [results, Try.results23, go_sem, q0, q1]) rfl ⟨by rw [H.out], Below.setCell (Below.setCell (B1.setCell (p := ⟨w.heap.size, 0, none⟩) (Nat.le_refl _) (.int .i64 (keepV a u))) (by first | (simp; done) | (simp; omega)) _) (by first | (simp; done) | (simp; omega)) _⟩
        · have H := Lib.hid (show nextR p t a u false = (p, t, 0) by unfold nextR; rw [if_pos ⟨hc, hr⟩, if_neg (by simp), if_pos hl, if_neg ht, if_neg hk])
          have hd : decide (0 < t) = false := decide_eq_false ht
          clear hc hp hu hr hl
          go_enter Try.func23, Try.ntmps23
          go_wp2_with fail
          refine (refCheck_any p t _).mono ?_; rintro e w1 ⟨rfl, hb1⟩
          have P1 := ((At.new w 26 #[.int .i64 p, .int .i64 t]).alloc (.cells #[.int .i64 0, .int .i64 0] 26)).step hb1
          have R1 := (At.new (w.alloc (.cells #[.int .i64 p, .int .i64 t] 26)) 26 #[.int .i64 0, .int .i64 0]).step hb1
          simp only [World.size_alloc] at R1
          have B1 := below_step (((Below.refl _ _).alloc (Nat.le_refl _) _).alloc (by simp) _) hb1
          have c0 := P1.cell 0
          have c1 := P1.cell 1
          have r0 := R1.cell 0
          have r1 := R1.cell 1
          have f0 := P1.free 0
          have f1 := P1.free 1
          have g0 := R1.free 0
          have g1 := R1.free 1
          simp at c0 c1 r0 r1
          clear hb1
          rw [HC.out]
          go_wp2_with fail
          refine (refPts_any a _).mono ?_; rintro e w' ⟨rfl, rfl⟩
          rw [HP.out]
          go_wp2_with fail
          refine (refUse_any u _).mono ?_; rintro e w' ⟨rfl, rfl⟩
          rw [HU.out]
          go_wp2_with fail
          refine (refNeed_any p u _).mono ?_; rintro e w' ⟨rfl, rfl⟩
          go_wp2_with fail
          refine (refNeed_any p u _).mono ?_; rintro e w' ⟨rfl, rfl⟩
          go_wp2_with fail
          refine (refKeep_any a u _).mono ?_; rintro e w' ⟨rfl, rfl⟩
          go_wp2_with fail
          have F := (At.put R1 0 (.int .i64 (p))).put 1 (.int .i64 (t))
          have q0 := F.cell 0
          have q1 := F.cell 1
          simp at q0 q1
          exact bodyPost_ret (v := .tuple #[.agg #[.int .i64 (p), .int .i64 (t)], .int .i64 0]) (by simp [results, Try.results23, go_sem, q0, q1]) rfl ⟨by rw [H.out], Below.setCell (Below.setCell B1 (by first | (simp; done) | (simp; omega)) _) (by first | (simp; done) | (simp; omega)) _⟩
  · by_cases ht : t = 0
    · have H := Lib.hid (show nextR p t a u true = (p, t, 22) by unfold nextR; rw [if_pos ⟨hc, hr⟩, if_pos rfl, if_pos ht])
      have hz : (t == 0) = true := by rw [ht]; rfl
      clear hc hp hu hr ht
      go_enter Try.func23, Try.ntmps23
      go_wp2_with fail
      refine (refCheck_any p t _).mono ?_; rintro e w1 ⟨rfl, hb1⟩
      have P1 := ((At.new w 26 #[.int .i64 p, .int .i64 t]).alloc (.cells #[.int .i64 0, .int .i64 0] 26)).step hb1
      have R1 := (At.new (w.alloc (.cells #[.int .i64 p, .int .i64 t] 26)) 26 #[.int .i64 0, .int .i64 0]).step hb1
      simp only [World.size_alloc] at R1
      have B1 := below_step (((Below.refl _ _).alloc (Nat.le_refl _) _).alloc (by simp) _) hb1
      have c0 := P1.cell 0
      have c1 := P1.cell 1
      have r0 := R1.cell 0
      have r1 := R1.cell 1
      have f0 := P1.free 0
      have f1 := P1.free 1
      have g0 := R1.free 0
      have g1 := R1.free 1
      simp at c0 c1 r0 r1
      clear hb1
      rw [HC.out]
      go_wp2_with fail
      refine (refPts_any a _).mono ?_; rintro e w' ⟨rfl, rfl⟩
      rw [HP.out]
      go_wp2_with fail
      refine (refUse_any u _).mono ?_; rintro e w' ⟨rfl, rfl⟩
      rw [HU.out]
      go_wp2_with fail
      have F := (At.put R1 0 (.int .i64 (p))).put 1 (.int .i64 (t))
      have q0 := F.cell 0
      have q1 := F.cell 1
      simp at q0 q1
      exact bodyPost_ret (v := .tuple #[.agg #[.int .i64 (p), .int .i64 (t)], .int .i64 22]) (by simp [results, Try.results23, go_sem, q0, q1]) rfl ⟨by rw [H.out], Below.setCell (Below.setCell B1 (by first | (simp; done) | (simp; omega)) _) (by first | (simp; done) | (simp; omega)) _⟩
    · have H := Lib.hid (show nextR p t a u true = (p, t - 1, 0) by unfold nextR; rw [if_pos ⟨hc, hr⟩, if_pos rfl, if_neg ht])
      have hz : (t == 0) = false := beq_eq_false_iff_ne.2 ht
      have ht2 : 0 < t := by omega
      clear hc hp hu hr ht
      go_enter Try.func23, Try.ntmps23
      go_wp2_with fail
      refine (refCheck_any p t _).mono ?_; rintro e w1 ⟨rfl, hb1⟩
      have P1 := ((At.new w 26 #[.int .i64 p, .int .i64 t]).alloc (.cells #[.int .i64 0, .int .i64 0] 26)).step hb1
      have R1 := (At.new (w.alloc (.cells #[.int .i64 p, .int .i64 t] 26)) 26 #[.int .i64 0, .int .i64 0]).step hb1
      simp only [World.size_alloc] at R1
      have B1 := below_step (((Below.refl _ _).alloc (Nat.le_refl _) _).alloc (by simp) _) hb1
      have c0 := P1.cell 0
      have c1 := P1.cell 1
      have r0 := R1.cell 0
      have r1 := R1.cell 1
      have f0 := P1.free 0
      have f1 := P1.free 1
      have g0 := R1.free 0
      have g1 := R1.free 1
      simp at c0 c1 r0 r1
      clear hb1
      rw [HC.out]
      go_wp2_with fail
      refine (refPts_any a _).mono ?_; rintro e w' ⟨rfl, rfl⟩
      rw [HP.out]
      go_wp2_with fail
      refine (refUse_any u _).mono ?_; rintro e w' ⟨rfl, rfl⟩
      rw [HU.out]
      have k0 := (P1.put 1 (.int .i64 (t - 1))).cell 0
      have k1 := (P1.put 1 (.int .i64 (t - 1))).cell 1
      simp at k0 k1
      go_wp2_with fail
      have F := (At.put (R1.far (p := ⟨w.heap.size, 1, none⟩) (by first | (simp; done) | (simp; omega)) (.int .i64 (t - 1))) 0 (.int .i64 (p))).put 1 (.int .i64 (t - 1))
      have q0 := F.cell 0
      have q1 := F.cell 1
      simp at q0 q1
      exact bodyPost_ret (v := .tuple #[.agg #[.int .i64 (p), .int .i64 (t - 1)], .int .i64 0]) (by simp [results, Try.results23, go_sem, q0, q1]) rfl ⟨by rw [H.out], Below.setCell (Below.setCell (B1.setCell (p := ⟨w.heap.size, 1, none⟩) (Nat.le_refl _) (.int .i64 (t - 1))) (by first | (simp; done) | (simp; omega)) _) (by first | (simp; done) | (simp; omega)) _⟩

end Go.Proofs.Ytidhleeoeapjmaa
