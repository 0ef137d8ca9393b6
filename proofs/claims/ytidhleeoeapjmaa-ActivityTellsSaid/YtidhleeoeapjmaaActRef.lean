/- The contracts of the reference of chapter 17 (package vendueref17): points, use, Check, Need, Keep, Bought, Room, Next: what each call answers; memory that lay before lies as it lay. -/
import Derived.Test.YtidhleeoeapjmaaAct
import Derived.Test.YtidhleeoeapjmaaActLaw
namespace Go.Proofs.Ytidhleeoeapjmaa
open Go.RowKit
set_option linter.unusedVariables false

def ptsB (n : Int) : Bool := decide (0 ≤ n ∧ n ≤ 1073741824)
def useB (n : Int) : Bool := decide (1 ≤ n ∧ n ≤ 10000)
theorem right_two (p u : Int) : rightB p u = (ptsB p && useB u) := by
  unfold rightB ptsB useB
  rw [Bool.eq_iff_iff, Bool.and_eq_true, decide_eq_true_eq, decide_eq_true_eq, decide_eq_true_eq]
  omega
theorem check_two (p t : Int) : checkB p t = (ptsB p && decide (0 ≤ t ∧ t ≤ 5)) := by
  unfold checkB ptsB
  rw [Bool.eq_iff_iff, Bool.and_eq_true, decide_eq_true_eq, decide_eq_true_eq, decide_eq_true_eq]
  omega
theorem pts_yes {n : Int} (h : ptsB n = true) : 0 ≤ n ∧ n ≤ 1073741824 := of_decide_eq_true h
theorem use_yes {n : Int} (h : useB n = true) : 1 ≤ n ∧ n ≤ 10000 := of_decide_eq_true h

theorem refPts_any (n : Int) (w : World) : Calls Try.prog 30 #[.int .i64 n] w fun e w' => e = .returned (.bool (ptsB n)) ∧ w = w' := by
  by_cases h1 : 0 ≤ n
  · by_cases h2 : n ≤ 1073741824
    · have H := Lib.hid (show ptsB n = true from decide_eq_true ⟨h1, h2⟩)
      go_enter Try.func30, Try.ntmps30
      go_wp2_with fail
      go_ret
      exact ⟨by rw [H.out]; rfl, rfl⟩
    · have H := Lib.hid (show ptsB n = false from decide_eq_false (by omega))
      have hd : decide (n ≤ 1073741824) = false := decide_eq_false h2
      go_enter Try.func30, Try.ntmps30
      go_wp2_with fail
      go_ret
      exact ⟨by rw [H.out]; rfl, rfl⟩
  · have H := Lib.hid (show ptsB n = false from decide_eq_false (by omega))
    have hd : decide (0 ≤ n) = false := decide_eq_false h1
    go_enter Try.func30, Try.ntmps30
    go_wp2_with fail
    go_ret
    exact ⟨by rw [H.out]; rfl, rfl⟩

theorem refUse_any (n : Int) (w : World) : Calls Try.prog 31 #[.int .i64 n] w fun e w' => e = .returned (.bool (useB n)) ∧ w = w' := by
  by_cases h1 : 1 ≤ n
  · by_cases h2 : n ≤ 10000
    · have H := Lib.hid (show useB n = true from decide_eq_true ⟨h1, h2⟩)
      go_enter Try.func31, Try.ntmps31
      go_wp2_with fail
      go_ret
      exact ⟨by rw [H.out]; rfl, rfl⟩
    · have H := Lib.hid (show useB n = false from decide_eq_false (by omega))
      have hd : decide (n ≤ 10000) = false := decide_eq_false h2
      go_enter Try.func31, Try.ntmps31
      go_wp2_with fail
      go_ret
      exact ⟨by rw [H.out]; rfl, rfl⟩
  · have H := Lib.hid (show useB n = false from decide_eq_false (by omega))
    have hd : decide (1 ≤ n) = false := decide_eq_false h1
    go_enter Try.func31, Try.ntmps31
    go_wp2_with fail
    go_ret
    exact ⟨by rw [H.out]; rfl, rfl⟩

theorem refCheck_any (p t : Int) (w : World) :
    Calls Try.prog 24 #[.agg #[.int .i64 p, .int .i64 t]] w fun e w' => e = .returned (.bool (checkB p t)) ∧ Below w.heap.size w w' := by
  cases hp : ptsB p
  · have H := Lib.hid (show checkB p t = false by rw [check_two, hp]; rfl)
    have HP := Lib.hid hp
    clear hp
    go_enter Try.func24, Try.ntmps24
    go_wp2_with fail
    refine (refPts_any p _).mono ?_; rintro e w' ⟨rfl, rfl⟩
    rw [HP.out]
    go_wp2_with fail
    go_ret
    exact ⟨by rw [H.out]; rfl, (Below.refl _ _).alloc (Nat.le_refl _) _⟩
  · have HP := Lib.hid hp
    by_cases h1 : 0 ≤ t
    · by_cases h2 : t ≤ 5
      · have H := Lib.hid (show checkB p t = true by rw [check_two, hp, decide_eq_true (show 0 ≤ t ∧ t ≤ 5 by omega)]; rfl)
        clear hp
        go_enter Try.func24, Try.ntmps24
        go_wp2_with fail
        refine (refPts_any p _).mono ?_; rintro e w' ⟨rfl, rfl⟩
        rw [HP.out]
        go_wp2_with fail
        go_ret
        exact ⟨by rw [H.out]; rfl, (Below.refl _ _).alloc (Nat.le_refl _) _⟩
      · have H := Lib.hid (show checkB p t = false by rw [check_two, hp, decide_eq_false (show ¬ (0 ≤ t ∧ t ≤ 5) by omega)]; rfl)
        have hd : decide (t ≤ 5) = false := decide_eq_false h2
        clear hp
        go_enter Try.func24, Try.ntmps24
        go_wp2_with fail
        refine (refPts_any p _).mono ?_; rintro e w' ⟨rfl, rfl⟩
        rw [HP.out]
        go_wp2_with fail
        go_ret
        exact ⟨by rw [H.out]; rfl, (Below.refl _ _).alloc (Nat.le_refl _) _⟩
    · have H := Lib.hid (show checkB p t = false by rw [check_two, hp, decide_eq_false (show ¬ (0 ≤ t ∧ t ≤ 5) by omega)]; rfl)
      have hd : decide (0 ≤ t) = false := decide_eq_false h1
      clear hp
      go_enter Try.func24, Try.ntmps24
      go_wp2_with fail
      refine (refPts_any p _).mono ?_; rintro e w' ⟨rfl, rfl⟩
      rw [HP.out]
      go_wp2_with fail
      go_ret
      exact ⟨by rw [H.out]; rfl, (Below.refl _ _).alloc (Nat.le_refl _) _⟩

theorem need_is (p u : Int) (hr : rightB p u = true) : needV p u = if p * u / 10000 * 10000 < p * u then p * u / 10000 + 1 else p * u / 10000 := by
  have hb := right_yes hr
  obtain ⟨m0, m1⟩ := prod_bd p u 1073741824 10000 ⟨by omega, by omega⟩ ⟨by omega, by omega⟩
  unfold needV
  rw [if_pos hr]
  generalize p * u = x at *
  unfold upV
  rw [if_neg (by omega)]
  by_cases h : x % 10000 = 0
  · rw [if_pos h, if_neg (by omega)]
  · rw [if_neg h, if_pos (by omega)]
    unfold addV
    rw [if_pos (by omega)]
    omega

theorem refNeed_any (p u : Int) (w : World) : Calls Try.prog 25 #[.int .i64 p, .int .i64 u] w fun e w' => e = .returned (.int .i64 (needV p u)) ∧ w = w' := by
  cases hp : ptsB p
  · have H := Lib.hid (show needV p u = 0 by unfold needV; rw [right_two, hp]; rfl)
    have HP := Lib.hid hp
    clear hp
    go_enter Try.func25, Try.ntmps25
    go_wp2_with fail
    refine (refPts_any p _).mono ?_; rintro e w' ⟨rfl, rfl⟩
    rw [HP.out]
    go_wp2_with fail
    refine (refUse_any u _).mono ?_; rintro e w' ⟨rfl, rfl⟩
    go_wp2_with fail
    go_ret
    exact ⟨by rw [H.out]; rfl, rfl⟩
  cases hu : useB u
  · have H := Lib.hid (show needV p u = 0 by unfold needV; rw [right_two, hp, hu]; rfl)
    have HP := Lib.hid hp
    have HU := Lib.hid hu
    clear hp hu
    go_enter Try.func25, Try.ntmps25
    go_wp2_with fail
    refine (refPts_any p _).mono ?_; rintro e w' ⟨rfl, rfl⟩
    rw [HP.out]
    go_wp2_with fail
    refine (refUse_any u _).mono ?_; rintro e w' ⟨rfl, rfl⟩
    rw [HU.out]
    go_wp2_with fail
    go_ret
    exact ⟨by rw [H.out]; rfl, rfl⟩
  have hr : rightB p u = true := by rw [right_two, hp, hu]; rfl
  have HP := Lib.hid hp
  have HU := Lib.hid hu
  have hb := right_yes hr
  have hm := prod_bd p u 1073741824 10000 ⟨by omega, by omega⟩ ⟨by omega, by omega⟩
  have hv := need_is p u hr
  clear hp hu hr
  obtain ⟨m0, m1⟩ := hm
  obtain ⟨M, hM⟩ : ∃ M, M = p * u := ⟨_, rfl⟩
  by_cases hc : p * u / 10000 * 10000 < p * u
  · have H := Lib.hid (show needV p u = p * u / 10000 + 1 by rw [hv, if_pos hc])
    clear hv hM
    go_enter Try.func25, Try.ntmps25
    go_wp2_with fail
    refine (refPts_any p _).mono ?_; rintro e w' ⟨rfl, rfl⟩
    rw [HP.out]
    go_wp2_with fail
    refine (refUse_any u _).mono ?_; rintro e w' ⟨rfl, rfl⟩
    rw [HU.out]
    go_wp2_with fail
    go_ret
    exact ⟨by rw [H.out]; rfl, rfl⟩
  · have H := Lib.hid (show needV p u = p * u / 10000 by rw [hv, if_neg hc])
    clear hv hM
    go_enter Try.func25, Try.ntmps25
    go_wp2_with fail
    refine (refPts_any p _).mono ?_; rintro e w' ⟨rfl, rfl⟩
    rw [HP.out]
    go_wp2_with fail
    refine (refUse_any u _).mono ?_; rintro e w' ⟨rfl, rfl⟩
    rw [HU.out]
    go_wp2_with fail
    go_ret
    exact ⟨by rw [H.out]; rfl, rfl⟩

theorem refKeep_any (a u : Int) (w : World) : Calls Try.prog 26 #[.int .i64 a, .int .i64 u] w fun e w' => e = .returned (.int .i64 (keepV a u)) ∧ w = w' := by
  cases hp : ptsB a
  · have H := Lib.hid (show keepV a u = 0 by unfold keepV; rw [right_two, hp]; rfl)
    have HP := Lib.hid hp
    clear hp
    go_enter Try.func26, Try.ntmps26
    go_wp2_with fail
    refine (refPts_any a _).mono ?_; rintro e w' ⟨rfl, rfl⟩
    rw [HP.out]
    go_wp2_with fail
    refine (refUse_any u _).mono ?_; rintro e w' ⟨rfl, rfl⟩
    go_wp2_with fail
    go_ret
    exact ⟨by rw [H.out]; rfl, rfl⟩
  cases hu : useB u
  · have H := Lib.hid (show keepV a u = 0 by unfold keepV; rw [right_two, hp, hu]; rfl)
    have HP := Lib.hid hp
    have HU := Lib.hid hu
    clear hp hu
    go_enter Try.func26, Try.ntmps26
    go_wp2_with fail
    refine (refPts_any a _).mono ?_; rintro e w' ⟨rfl, rfl⟩
    rw [HP.out]
    go_wp2_with fail
    refine (refUse_any u _).mono ?_; rintro e w' ⟨rfl, rfl⟩
    rw [HU.out]
    go_wp2_with fail
    go_ret
    exact ⟨by rw [H.out]; rfl, rfl⟩
  have hr : rightB a u = true := by rw [right_two, hp, hu]; rfl
  have HP := Lib.hid hp
  have HU := Lib.hid hu
  have hb := right_yes hr
  clear hp hu
  obtain ⟨b0, b1, b2, b3⟩ := hb
  have d0 : 0 ≤ a * 10000 / u := Int.ediv_nonneg (by omega) (by omega)
  have d1 : a * 10000 / u ≤ a * 10000 := Int.ediv_le_self _ (by omega)
  by_cases hc : 1073741824 < a * 10000 / u
  · have H := Lib.hid (show keepV a u = 1073741824 by unfold keepV; rw [if_pos hr, if_neg (by omega)])
    clear hr
    go_enter Try.func26, Try.ntmps26
    go_wp2_with fail
    refine (refPts_any a _).mono ?_; rintro e w' ⟨rfl, rfl⟩
    rw [HP.out]
    go_wp2_with fail
    refine (refUse_any u _).mono ?_; rintro e w' ⟨rfl, rfl⟩
    rw [HU.out]
    go_wp2_with fail
    go_ret
    exact ⟨by rw [H.out]; rfl, rfl⟩
  · have H := Lib.hid (show keepV a u = a * 10000 / u by unfold keepV; rw [if_pos hr, if_pos (by omega)])
    clear hr
    go_enter Try.func26, Try.ntmps26
    go_wp2_with fail
    refine (refPts_any a _).mono ?_; rintro e w' ⟨rfl, rfl⟩
    rw [HP.out]
    go_wp2_with fail
    refine (refUse_any u _).mono ?_; rintro e w' ⟨rfl, rfl⟩
    rw [HU.out]
    go_wp2_with fail
    go_ret
    exact ⟨by rw [H.out]; rfl, rfl⟩

theorem refBought_any (d p : Int) (w : World) (hd : d ≤ 9223372036854775807) :
    Calls Try.prog 27 #[.int .i64 d, .int .i64 p] w fun e w' => e = .returned (.int .i64 (boughtV d p)) ∧ w = w' := by
  by_cases h1 : d < 0
  · have H := Lib.hid (show boughtV d p = 0 by unfold boughtV; rw [if_pos (Or.inl h1)])
    go_enter Try.func27, Try.ntmps27
    go_wp2_with fail
    go_ret
    exact ⟨by rw [H.out]; rfl, rfl⟩
  by_cases h2 : p < 1
  · have H := Lib.hid (show boughtV d p = 0 by unfold boughtV; rw [if_pos (Or.inr h2)])
    go_enter Try.func27, Try.ntmps27
    go_wp2_with fail
    go_ret
    exact ⟨by rw [H.out]; rfl, rfl⟩
  have d0 : 0 ≤ d / p := Int.ediv_nonneg (by omega) (by omega)
  have d1 : d / p ≤ d := Int.ediv_le_self _ (by omega)
  by_cases hc : 1073741824 < d / p
  · have H := Lib.hid (show boughtV d p = 1073741824 by unfold boughtV; rw [if_neg (by omega), if_neg (by omega)])
    go_enter Try.func27, Try.ntmps27
    go_wp2_with fail
    go_ret
    exact ⟨by rw [H.out]; rfl, rfl⟩
  · have H := Lib.hid (show boughtV d p = d / p by unfold boughtV; rw [if_neg (by omega), if_pos (by omega)])
    go_enter Try.func27, Try.ntmps27
    go_wp2_with fail
    go_ret
    exact ⟨by rw [H.out]; rfl, rfl⟩

end Go.Proofs.Ytidhleeoeapjmaa
