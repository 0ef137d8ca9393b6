/- The contracts of package activity (right, Check, Need, Keep, Bought, Room, Next with its closure): what each call answers; memory that lay before lies as it lay. -/
import Derived.Test.YtidhleeoeapjmaaMoney
import Derived.Deep.RegionHeld3
import Derived.Deep.AppendLies
namespace Go.Proofs.Ytidhleeoeapjmaa
open Go.RowKit
set_option linter.unusedVariables false

def rightB (p u : Int) : Bool := decide (0 ≤ p ∧ p ≤ 1073741824 ∧ 1 ≤ u ∧ u ≤ 10000)
theorem right_yes {p u : Int} (h : rightB p u = true) : 0 ≤ p ∧ p ≤ 1073741824 ∧ 1 ≤ u ∧ u ≤ 10000 := of_decide_eq_true h
theorem right_no {p u : Int} (h : rightB p u = false) : ¬ (0 ≤ p ∧ p ≤ 1073741824 ∧ 1 ≤ u ∧ u ≤ 10000) := of_decide_eq_false h
theorem right_mk {p u : Int} (h : 0 ≤ p ∧ p ≤ 1073741824 ∧ 1 ≤ u ∧ u ≤ 10000) : rightB p u = true := decide_eq_true h
theorem right_mkn {p u : Int} (h : ¬ (0 ≤ p ∧ p ≤ 1073741824 ∧ 1 ≤ u ∧ u ≤ 10000)) : rightB p u = false := decide_eq_false h
theorem right_any (p u : Int) (w : World) :
    Calls Try.prog 20 #[.int .i64 p, .int .i64 u] w fun e w' => e = .returned (.bool (rightB p u)) ∧ w = w' := by
  by_cases h1 : 0 ≤ p
  · by_cases h2 : p ≤ 1073741824
    · by_cases h3 : 1 ≤ u
      · by_cases h4 : u ≤ 10000
        · have H := Lib.hid (right_mk ⟨h1, h2, h3, h4⟩)
          go_enter Try.func20, Try.ntmps20
          go_wp2
          go_ret
          exact ⟨by rw [H.out]; rfl, rfl⟩
        · have H := Lib.hid (right_mkn (p := p) (u := u) (by omega))
          go_enter Try.func20, Try.ntmps20
          go_wp2
          go_ret
          exact ⟨by rw [H.out]; rfl, rfl⟩
      · have H := Lib.hid (right_mkn (p := p) (u := u) (by omega))
        go_enter Try.func20, Try.ntmps20
        go_wp2
        go_ret
        exact ⟨by rw [H.out]; rfl, rfl⟩
    · have H := Lib.hid (right_mkn (p := p) (u := u) (by omega))
      go_enter Try.func20, Try.ntmps20
      go_wp2
      go_ret
      exact ⟨by rw [H.out]; rfl, rfl⟩
  · have H := Lib.hid (right_mkn (p := p) (u := u) (by omega))
    go_enter Try.func20, Try.ntmps20
    go_wp2
    go_ret
    exact ⟨by rw [H.out]; rfl, rfl⟩

def checkB (p t : Int) : Bool := decide (0 ≤ p ∧ p ≤ 1073741824 ∧ 0 ≤ t ∧ t ≤ 5)
theorem check_any (p t : Int) (w : World) :
    Calls Try.prog 17 #[.agg #[.int .i64 p, .int .i64 t]] w fun e w' => e = .returned (.bool (checkB p t)) ∧ w.alloc (.cells #[.int .i64 p, .int .i64 t] 26) = w' := by
  cases hr : rightB p 1
  · have H := Lib.hid (show checkB p t = false from decide_eq_false (by have := right_no hr; omega))
    have HR := Lib.hid hr
    clear hr
    go_enter Try.func17, Try.ntmps17
    go_wp2_with fail
    refine (right_any p 1 _).mono ?_; rintro e w' ⟨rfl, rfl⟩
    rw [HR.out]
    go_wp2_with fail
    go_ret
    exact ⟨by rw [H.out]; rfl, rfl⟩
  · have HR := Lib.hid hr
    have hb := right_yes hr
    clear hr
    by_cases h1 : 0 ≤ t
    · by_cases h2 : t ≤ 5
      · have H := Lib.hid (show checkB p t = true from decide_eq_true (by omega))
        go_enter Try.func17, Try.ntmps17
        go_wp2_with fail
        refine (right_any p 1 _).mono ?_; rintro e w' ⟨rfl, rfl⟩
        rw [HR.out]
        go_wp2_with fail
        go_ret
        exact ⟨by rw [H.out]; rfl, rfl⟩
      · have H := Lib.hid (show checkB p t = false from decide_eq_false (by omega))
        have hd : decide (t ≤ 5) = false := decide_eq_false h2
        go_enter Try.func17, Try.ntmps17
        go_wp2_with fail
        refine (right_any p 1 _).mono ?_; rintro e w' ⟨rfl, rfl⟩
        rw [HR.out]
        go_wp2_with fail
        go_ret
        exact ⟨by rw [H.out]; rfl, rfl⟩
    · have H := Lib.hid (show checkB p t = false from decide_eq_false (by omega))
      go_enter Try.func17, Try.ntmps17
      go_wp2_with fail
      refine (right_any p 1 _).mono ?_; rintro e w' ⟨rfl, rfl⟩
      rw [HR.out]
      go_wp2_with fail
      go_ret
      exact ⟨by rw [H.out]; rfl, rfl⟩

def needV (p u : Int) : Int := if rightB p u = true then upV (p * u) 10000 / 10000 else 0
theorem prod_bd (p u a b : Int) (hp : 0 ≤ p ∧ p ≤ a) (hu : 0 ≤ u ∧ u ≤ b) : 0 ≤ p * u ∧ p * u ≤ a * b :=
  ⟨Int.mul_nonneg hp.1 hu.1, Int.mul_le_mul hp.2 hu.2 hu.1 (by omega)⟩
theorem upV_fits (a : Int) (h : 0 ≤ a ∧ a ≤ 1000000000000000) : 0 ≤ upV a 10000 ∧ upV a 10000 ≤ 1000000000010000 := by
  unfold upV addV
  split
  · omega
  · split
    · omega
    · split <;> omega
theorem need_any (p u : Int) (w : World) :
    Calls Try.prog 14 #[.int .i64 p, .int .i64 u] w fun e w' => e = .returned (.int .i64 (needV p u)) ∧ Below w.heap.size w w' := by
  cases hr : rightB p u
  · have H := Lib.hid (show needV p u = 0 by unfold needV; rw [hr]; rfl)
    have HR := Lib.hid hr
    clear hr
    go_enter Try.func14, Try.ntmps14
    go_wp2_with fail
    refine (right_any p u _).mono ?_; rintro e w' ⟨rfl, rfl⟩
    rw [HR.out]
    go_wp2_with fail
    go_ret
    exact ⟨by rw [H.out]; rfl, Below.refl _ _⟩
  · have HR := Lib.hid hr
    have hb := right_yes hr
    have hm := prod_bd p u 1073741824 10000 ⟨by omega, by omega⟩ ⟨by omega, by omega⟩
    have hf := upV_fits (p * u) ⟨by omega, by omega⟩
    have H := Lib.hid (show needV p u = upV (p * u) 10000 / 10000 by unfold needV; rw [if_pos hr])
    clear hr
    obtain ⟨hm0, hm1⟩ := hm
    obtain ⟨hf0, hf1⟩ := hf
    go_enter Try.func14, Try.ntmps14
    go_wp2_with fail
    refine (right_any p u _).mono ?_; rintro e w' ⟨rfl, rfl⟩
    rw [HR.out]
    go_wp2_with fail
    refine (up_any (p * u) 10000 _ (by omega) (by omega) (by omega) (by omega)).mono ?_; rintro e w' ⟨rfl, hw⟩
    go_wp2_with fail
    go_ret
    exact ⟨by rw [H.out]; rfl, hw⟩

def keepV (a u : Int) : Int := if rightB a u = true then (if a * 10000 / u ≤ 1073741824 then a * 10000 / u else 1073741824) else 0
theorem keep_any (a u : Int) (w : World) :
    Calls Try.prog 21 #[.int .i64 a, .int .i64 u] w fun e w' => e = .returned (.int .i64 (keepV a u)) ∧ w = w' := by
  cases hr : rightB a u
  · have H := Lib.hid (show keepV a u = 0 by unfold keepV; rw [hr]; rfl)
    have HR := Lib.hid hr
    clear hr
    go_enter Try.func21, Try.ntmps21
    go_wp2_with fail
    refine (right_any a u _).mono ?_; rintro e w' ⟨rfl, rfl⟩
    rw [HR.out]
    go_wp2_with fail
    go_ret
    exact ⟨by rw [H.out]; rfl, rfl⟩
  · have HR := Lib.hid hr
    have hb := right_yes hr
    clear hr
    obtain ⟨b0, b1, b2, b3⟩ := hb
    go_enter Try.func21, Try.ntmps21
    go_wp2_with fail
    refine (right_any a u _).mono ?_; rintro e w' ⟨rfl, rfl⟩
    rw [HR.out]
    go_wp2_with fail
    all_goals
      go_ret
    · exact ⟨by unfold keepV; rw [if_pos HR.out, if_neg (by omega)]; rfl, rfl⟩
    · exact ⟨by unfold keepV; rw [if_pos HR.out, if_pos (by assumption)]; rfl, rfl⟩

def boughtV (d p : Int) : Int := if d < 0 ∨ p < 1 then 0 else if d / p ≤ 1073741824 then d / p else 1073741824
theorem bought_any (d p : Int) (w : World) (hd : d ≤ 9223372036854775807) :
    Calls Try.prog 15 #[.int .i64 d, .int .i64 p] w fun e w' => e = .returned (.int .i64 (boughtV d p)) ∧ w = w' := by
  by_cases h1 : d < 0
  · have H := Lib.hid (show boughtV d p = 0 by unfold boughtV; rw [if_pos (Or.inl h1)])
    go_enter Try.func15, Try.ntmps15
    go_wp2
    go_ret
    exact ⟨by rw [H.out]; rfl, rfl⟩
  · by_cases h2 : p < 1
    · have H := Lib.hid (show boughtV d p = 0 by unfold boughtV; rw [if_pos (Or.inr h2)])
      go_enter Try.func15, Try.ntmps15
      go_wp2
      go_ret
      exact ⟨by rw [H.out]; rfl, rfl⟩
    · have hn : ¬ (d < 0 ∨ p < 1) := by omega
      have HN := Lib.hid hn
      clear hn
      go_enter Try.func15, Try.ntmps15
      go_wp2
      all_goals
        go_ret
      · exact ⟨by unfold boughtV; rw [if_neg HN.out, if_neg (by omega)]; rfl, rfl⟩
      · exact ⟨by unfold boughtV; rw [if_neg HN.out, if_pos (by assumption)]; rfl, rfl⟩

def roomV (p t a : Int) : Int := if checkB p t = true ∧ rightB a 1 = true then (if 0 ≤ p - a then p - a else 0) else 0
theorem check_yes {p t : Int} (h : checkB p t = true) : 0 ≤ p ∧ p ≤ 1073741824 ∧ 0 ≤ t ∧ t ≤ 5 := of_decide_eq_true h
theorem room_any (p t a : Int) (w : World) :
    Calls Try.prog 16 #[.agg #[.int .i64 p, .int .i64 t], .int .i64 a] w fun e w' => e = .returned (.int .i64 (roomV p t a)) ∧ Below w.heap.size w w' := by
  cases hc : checkB p t
  · have HC := Lib.hid hc
    have H := Lib.hid (show roomV p t a = 0 by unfold roomV; rw [if_neg (by rw [hc]; simp)])
    clear hc
    go_enter Try.func16, Try.ntmps16
    go_wp2_with fail
    refine (check_any p t _).mono ?_; rintro e w' ⟨rfl, rfl⟩
    rw [HC.out]
    go_wp2_with fail
    go_ret
    exact ⟨by rw [H.out]; rfl, ((Below.refl _ _).alloc (Nat.le_refl _) _).alloc (by simp) _⟩
  · have HC := Lib.hid hc
    have hb := check_yes hc
    cases hr : rightB a 1
    · have HR := Lib.hid hr
      have H := Lib.hid (show roomV p t a = 0 by unfold roomV; rw [if_neg (by rw [hr]; simp)])
      clear hc hr
      go_enter Try.func16, Try.ntmps16
      go_wp2_with fail
      refine (check_any p t _).mono ?_; rintro e w' ⟨rfl, rfl⟩
      rw [HC.out]
      go_wp2_with fail
      refine (right_any a 1 _).mono ?_; rintro e w' ⟨rfl, rfl⟩
      rw [HR.out]
      go_wp2_with fail
      go_ret
      exact ⟨by rw [H.out]; rfl, ((Below.refl _ _).alloc (Nat.le_refl _) _).alloc (by simp) _⟩
    · have HR := Lib.hid hr
      have hr' := right_yes hr
      have H := Lib.hid (show roomV p t a = (if 0 ≤ p - a then p - a else 0) by unfold roomV; rw [if_pos ⟨hc, hr⟩])
      clear hc hr
      go_enter Try.func16, Try.ntmps16
      go_wp2_with fail
      refine (check_any p t _).mono ?_; rintro e w' ⟨rfl, rfl⟩
      rw [HC.out]
      go_wp2_with fail
      refine (right_any a 1 _).mono ?_; rintro e w' ⟨rfl, rfl⟩
      rw [HR.out]
      go_wp2_with fail
      all_goals
        go_ret
      · exact ⟨by rw [H.out, if_neg (by omega)]; rfl, ((Below.refl _ _).alloc (Nat.le_refl _) _).alloc (by simp) _⟩
      · exact ⟨by rw [H.out, if_pos (by assumption)]; rfl, ((Below.refl _ _).alloc (Nat.le_refl _) _).alloc (by simp) _⟩

def lazyB (a p u : Int) : Bool := decide (a < needV p u)
theorem lazy_any (bA bP bU : Nat) (a p t u : Int) (w : World) (hA : At w bA 2 #[.int .i64 a]) (hP : At w bP 26 #[.int .i64 p, .int .i64 t]) (hU : At w bU 2 #[.int .i64 u]) :
    Calls Try.prog 19 #[.pointer (some ⟨bA, 0, none⟩), .pointer (some ⟨bP, 0, none⟩), .pointer (some ⟨bU, 0, none⟩)] w fun e w' => e = .returned (.bool (lazyB a p u)) ∧ Below w.heap.size w w' := by
  have c1 := hA.cell 0
  have c2 := hP.cell 0
  have c3 := hU.cell 0
  have l1 := hA.lt
  have l2 := hP.lt
  have l3 := hU.lt
  go_enter Try.func19, Try.ntmps19
  go_wp2_with fail
  go_region_held3 (fun w' => w'.cell? ⟨bA, 0, none⟩ = some (.int .i64 a) ∧ w'.cell? ⟨bP, 0, none⟩ = some (.int .i64 p) ∧ w'.cell? ⟨bU, 0, none⟩ = some (.int .i64 u)) (first | exact ⟨c1, c2, c3⟩ | exact ⟨d1, d2, d3⟩ | go_keep)
    ((go_at_call 14; refine (need_any p u _).mono ?_; rintro e w1 ⟨rfl, hb⟩; have d1 := (hb.cell (p := ⟨bA, 0, none⟩) l1).trans c1; have d2 := (hb.cell (p := ⟨bP, 0, none⟩) l2).trans c2; have d3 := (hb.cell (p := ⟨bU, 0, none⟩) l3).trans c3))
  go_wp2_with fail
  go_ret
  exact ⟨rfl, below_step (Below.refl _ _).drew hb⟩

def nextR (p t a u : Int) (asked : Bool) : Int × Int × Int :=
  if checkB p t = true ∧ rightB a u = true then
    if asked = true then (if t = 0 then (p, t, 22) else (p, t - 1, 0))
    else if lazyB a p u = true then (if 0 < t then (p, t - 1, 0) else (if keepV a u < p then keepV a u else p, t, 0)) else (p, t, 0)
  else (0, 0, 1)

theorem next_world (w W1 : World) (p t a u : Int) (h : W1 = ((((w.alloc (.cells #[.int .i64 p, .int .i64 t] 26)).alloc (.cells #[.int .i64 a] 2)).alloc (.cells #[.int .i64 u] 2)).alloc (.cells #[.int .i64 0, .int .i64 0] 26)).alloc (.cells #[.int .i64 p, .int .i64 t] 26)) :
    At W1 w.heap.size 26 #[.int .i64 p, .int .i64 t] ∧ At W1 (w.heap.size + 1) 2 #[.int .i64 a] ∧ At W1 (w.heap.size + 1 + 1) 2 #[.int .i64 u] ∧ At W1 (w.heap.size + 1 + 1 + 1) 26 #[.int .i64 0, .int .i64 0] ∧ Below w.heap.size w W1 := by
  subst h
  refine ⟨?_, ?_, ?_, ?_, ?_⟩
  · exact ((((At.new _ _ _).alloc _).alloc _).alloc _).alloc _
  · have h := (((At.new (w.alloc (.cells #[.int .i64 p, .int .i64 t] 26)) 2 #[.int .i64 a]).alloc (.cells #[.int .i64 u] 2)).alloc (.cells #[.int .i64 0, .int .i64 0] 26)).alloc (.cells #[.int .i64 p, .int .i64 t] 26)
    simpa using h
  · have h := ((At.new ((w.alloc (.cells #[.int .i64 p, .int .i64 t] 26)).alloc (.cells #[.int .i64 a] 2)) 2 #[.int .i64 u]).alloc (.cells #[.int .i64 0, .int .i64 0] 26)).alloc (.cells #[.int .i64 p, .int .i64 t] 26)
    simpa using h
  · have h := (At.new (((w.alloc (.cells #[.int .i64 p, .int .i64 t] 26)).alloc (.cells #[.int .i64 a] 2)).alloc (.cells #[.int .i64 u] 2)) 26 #[.int .i64 0, .int .i64 0]).alloc (.cells #[.int .i64 p, .int .i64 t] 26)
    simpa using h
  · exact (((((Below.refl _ _).alloc (Nat.le_refl _) _).alloc (by simp) _).alloc (by simp; omega) _).alloc (by simp; omega) _).alloc (by simp; omega) _

set_option maxHeartbeats 3200000 in
theorem next_any (p t a u : Int) (asked : Bool) (w : World) :
    Calls Try.prog 11 #[.agg #[.int .i64 p, .int .i64 t], .int .i64 a, .int .i64 u, .bool asked] w fun e w' =>
      e = .returned (.tuple #[.agg #[.int .i64 (nextR p t a u asked).1, .int .i64 (nextR p t a u asked).2.1], .int .i64 (nextR p t a u asked).2.2]) ∧ Below w.heap.size w w' := by
  have hmf : ∀ (fn : Fn) (first cap : Array Value) (w : World), (Instr.makeFunc fn first cap).run Try.prog w = .ok (.func fn first cap) w := fun _ _ _ _ => rfl
  cases hc : checkB p t
  · have H := Lib.hid (show nextR p t a u asked = (0, 0, 1) by unfold nextR; rw [if_neg (by rw [hc]; simp)])
    have HC := Lib.hid hc
    clear hc
    go_enter Try.func11, Try.ntmps11
    go_wp2_with fail
    refine (check_any p t _).mono ?_; rintro e w' ⟨rfl, rfl⟩
    rw [HC.out]
    go_wp2_with fail
    exact bodyPost_ret (v := .tuple #[.agg #[.int .i64 0, .int .i64 0], .int .i64 1]) (by simp [results, Try.results11, go_sem]) rfl ⟨by rw [H.out], (by repeat (first | exact Below.refl _ _ | exact Below.drew (Below.refl _ _) | refine Below.drew ?_ | (refine Below.alloc ?_ (by first | (simp; done) | (simp; omega)) _) | (refine Below.setCell ?_ (by first | (simp; done) | (simp; omega)) _)))⟩
  · have HC := Lib.hid hc
    have hb := check_yes hc
    cases hr : rightB a u
    · have H := Lib.hid (show nextR p t a u asked = (0, 0, 1) by unfold nextR; rw [if_neg (by rw [hr]; simp)])
      have HR := Lib.hid hr
      clear hc hr
      go_enter Try.func11, Try.ntmps11
      go_wp2_with fail
      refine (check_any p t _).mono ?_; rintro e w' ⟨rfl, rfl⟩
      rw [HC.out]
      go_wp2_with fail
      refine (right_any a u _).mono ?_; rintro e w' ⟨rfl, rfl⟩
      rw [HR.out]
      go_wp2_with fail
      exact bodyPost_ret (v := .tuple #[.agg #[.int .i64 0, .int .i64 0], .int .i64 1]) (by simp [results, Try.results11, go_sem]) rfl ⟨by rw [H.out], (by repeat (first | exact Below.refl _ _ | exact Below.drew (Below.refl _ _) | refine Below.drew ?_ | (refine Below.alloc ?_ (by first | (simp; done) | (simp; omega)) _) | (refine Below.setCell ?_ (by first | (simp; done) | (simp; omega)) _)))⟩
    · have HR := Lib.hid hr
      have hr' := right_yes hr
      cases asked
      · cases hl : lazyB a p u
        · have H := Lib.hid (show nextR p t a u false = (p, t, 0) by unfold nextR; rw [if_pos ⟨hc, hr⟩, if_neg (by simp), if_neg (by rw [hl]; simp)])
          have HL := Lib.hid hl
          clear hc hr hl
          go_enter Try.func11, Try.ntmps11
          go_wp2_with fail
          refine (check_any p t _).mono ?_; rintro e w' ⟨rfl, rfl⟩
          rw [HC.out]
          go_wp2_with fail
          refine (right_any a u _).mono ?_; rintro e w' ⟨rfl, rfl⟩
          rw [HR.out]
          go_wp2_with fail
          obtain ⟨W1, hW1⟩ : ∃ W1, W1 = ((((w.alloc (.cells #[.int .i64 p, .int .i64 t] 26)).alloc (.cells #[.int .i64 a] 2)).alloc (.cells #[.int .i64 u] 2)).alloc (.cells #[.int .i64 0, .int .i64 0] 26)).alloc (.cells #[.int .i64 p, .int .i64 t] 26) := ⟨_, rfl⟩
          obtain ⟨hP, hA, hU, hR, hB⟩ := next_world w W1 p t a u hW1
          rw [← hW1]
          clear hW1
          refine (lazy_any _ _ _ a p t u _ hA hP hU).mono ?_; rintro e w1 ⟨rfl, hb1⟩
          rw [HL.out]
          have P1 := hP.below hb1 hP.lt
          have A1 := hA.below hb1 hA.lt
          have U1 := hU.below hb1 hU.lt
          have R1 := hR.below hb1 hR.lt
          have B1 := below_step hB hb1
          clear hP hA hU hR hB hb1
          have c0 := P1.cell 0
          have f0 := P1.free 0
          have r0 := R1.cell 0
          have g0 := R1.free 0
          have c1 := P1.cell 1
          have f1 := P1.free 1
          have r1 := R1.cell 1
          have g1 := R1.free 1
          go_wp2_with fail
          clear c0 c1 r0 r1 f0 f1 g0 g1
          refine (lazy_any _ _ _ a p t u _ A1 P1 U1).mono ?_; rintro e w2 ⟨rfl, hb2⟩
          rw [HL.out]
          have P2 := P1.below hb2 P1.lt
          have A2 := A1.below hb2 A1.lt
          have U2 := U1.below hb2 U1.lt
          have R2 := R1.below hb2 R1.lt
          have B2 := below_step B1 hb2
          clear P1 A1 U1 R1 B1 hb2
          have c0 := P2.cell 0
          have f0 := P2.free 0
          have r0 := R2.cell 0
          have g0 := R2.free 0
          have c1 := P2.cell 1
          have f1 := P2.free 1
          have r1 := R2.cell 1
          have g1 := R2.free 1
          go_wp2_with fail
          have F := (At.put (R2) 0 (.int .i64 (p))).put 1 (.int .i64 (t))
          have q0 := F.cell 0
          have q1 := F.cell 1
          simp at q0 q1
          exact bodyPost_ret (v := .tuple #[.agg #[.int .i64 (p), .int .i64 (t)], .int .i64 0]) (by simp [results, Try.results11, go_sem, q0, q1]) rfl ⟨by rw [H.out], Below.setCell (Below.setCell B2 (by simp; omega) _) (by simp; omega) _⟩
        · have HL := Lib.hid hl
          by_cases ht : 0 < t
          · have H := Lib.hid (show nextR p t a u false = (p, t - 1, 0) by unfold nextR; rw [if_pos ⟨hc, hr⟩, if_neg (by simp), if_pos hl, if_pos ht])
            clear hc hr hl
            go_enter Try.func11, Try.ntmps11
            go_wp2_with fail
            refine (check_any p t _).mono ?_; rintro e w' ⟨rfl, rfl⟩
            rw [HC.out]
            go_wp2_with fail
            refine (right_any a u _).mono ?_; rintro e w' ⟨rfl, rfl⟩
            rw [HR.out]
            go_wp2_with fail
            obtain ⟨W1, hW1⟩ : ∃ W1, W1 = ((((w.alloc (.cells #[.int .i64 p, .int .i64 t] 26)).alloc (.cells #[.int .i64 a] 2)).alloc (.cells #[.int .i64 u] 2)).alloc (.cells #[.int .i64 0, .int .i64 0] 26)).alloc (.cells #[.int .i64 p, .int .i64 t] 26) := ⟨_, rfl⟩
            obtain ⟨hP, hA, hU, hR, hB⟩ := next_world w W1 p t a u hW1
            rw [← hW1]
            clear hW1
            refine (lazy_any _ _ _ a p t u _ hA hP hU).mono ?_; rintro e w1 ⟨rfl, hb1⟩
            rw [HL.out]
            have P1 := hP.below hb1 hP.lt
            have A1 := hA.below hb1 hA.lt
            have U1 := hU.below hb1 hU.lt
            have R1 := hR.below hb1 hR.lt
            have B1 := below_step hB hb1
            clear hP hA hU hR hB hb1
            have c0 := P1.cell 0
            have f0 := P1.free 0
            have r0 := R1.cell 0
            have g0 := R1.free 0
            have c1 := P1.cell 1
            have f1 := P1.free 1
            have r1 := R1.cell 1
            have g1 := R1.free 1
            have k0 := (P1.put 1 (.int .i64 (t - 1))).cell 0
            have k1 := (P1.put 1 (.int .i64 (t - 1))).cell 1
            simp at k0 k1
            go_wp2_with fail
            have F := (At.put ((R1.far (by simp; omega) (p := ⟨w.heap.size, 1, none⟩) (.int .i64 (t - 1)))) 0 (.int .i64 (p))).put 1 (.int .i64 (t - 1))
            have q0 := F.cell 0
            have q1 := F.cell 1
            simp at q0 q1
            exact bodyPost_ret (v := .tuple #[.agg #[.int .i64 (p), .int .i64 (t - 1)], .int .i64 0]) (by simp [results, Try.results11, go_sem, q0, q1]) rfl ⟨by rw [H.out], Below.setCell (Below.setCell (B1.setCell (p := ⟨w.heap.size, 1, none⟩) (Nat.le_refl _) (.int .i64 (t - 1))) (by simp; omega) _) (by simp; omega) _⟩
          · have Hk : ∀ q, q = (if keepV a u < p then keepV a u else p) → nextR p t a u false = (q, t, 0) := fun q hq => by unfold nextR; rw [if_pos ⟨hc, hr⟩, if_neg (by simp), if_pos hl, if_neg ht, ← hq]
            clear hc hr hl
            go_enter Try.func11, Try.ntmps11
            go_wp2_with fail
            refine (check_any p t _).mono ?_; rintro e w' ⟨rfl, rfl⟩
            rw [HC.out]
            go_wp2_with fail
            refine (right_any a u _).mono ?_; rintro e w' ⟨rfl, rfl⟩
            rw [HR.out]
            go_wp2_with fail
            obtain ⟨W1, hW1⟩ : ∃ W1, W1 = ((((w.alloc (.cells #[.int .i64 p, .int .i64 t] 26)).alloc (.cells #[.int .i64 a] 2)).alloc (.cells #[.int .i64 u] 2)).alloc (.cells #[.int .i64 0, .int .i64 0] 26)).alloc (.cells #[.int .i64 p, .int .i64 t] 26) := ⟨_, rfl⟩
            obtain ⟨hP, hA, hU, hR, hB⟩ := next_world w W1 p t a u hW1
            rw [← hW1]
            clear hW1
            refine (lazy_any _ _ _ a p t u _ hA hP hU).mono ?_; rintro e w1 ⟨rfl, hb1⟩
            rw [HL.out]
            have P1 := hP.below hb1 hP.lt
            have A1 := hA.below hb1 hA.lt
            have U1 := hU.below hb1 hU.lt
            have R1 := hR.below hb1 hR.lt
            have B1 := below_step hB hb1
            clear hP hA hU hR hB hb1
            have c0 := P1.cell 0
            have f0 := P1.free 0
            have r0 := R1.cell 0
            have g0 := R1.free 0
            have c1 := P1.cell 1
            have f1 := P1.free 1
            have r1 := R1.cell 1
            have g1 := R1.free 1
            go_wp2_with fail
            clear c0 c1 r0 r1 f0 f1 g0 g1
            refine (lazy_any _ _ _ a p t u _ A1 P1 U1).mono ?_; rintro e w2 ⟨rfl, hb2⟩
            rw [HL.out]
            have P2 := P1.below hb2 P1.lt
            have A2 := A1.below hb2 A1.lt
            have U2 := U1.below hb2 U1.lt
            have R2 := R1.below hb2 R1.lt
            have B2 := below_step B1 hb2
            clear P1 A1 U1 R1 B1 hb2
            have c0 := P2.cell 0
            have f0 := P2.free 0
            have r0 := R2.cell 0
            have g0 := R2.free 0
            have c1 := P2.cell 1
            have f1 := P2.free 1
            have r1 := R2.cell 1
            have g1 := R2.free 1
            have a0 := A2.cell 0
            have u0 := U2.cell 0
            go_wp2_with fail
            have Hk' := Lib.hid Hk
            clear Hk
            go_region_with ((go_at_call 21; refine (keep_any a u _).mono ?_; rintro e w' ⟨rfl, rfl⟩))
            all_goals
              obtain ⟨q, hq⟩ : ∃ q, q = (if keepV a u < p then keepV a u else p) := ⟨_, rfl⟩
              rw [← hq]
              have H := Lib.hid (Hk'.out q hq)
              clear hq
              have P3 := (P2.put 0 (.int .i64 q)).drew
              have k0 := P3.cell 0
              have k1 := P3.cell 1
              simp at k0 k1
              go_wp2_with fail
              have F := ((R2.far (by simp; omega) (p := ⟨w.heap.size, 0, none⟩) (.int .i64 q)).put 0 (.int .i64 q)).put 1 (.int .i64 t)
              have q0 := F.cell 0
              have q1 := F.cell 1
              simp at q0 q1
              exact bodyPost_ret (v := .tuple #[.agg #[.int .i64 q, .int .i64 t], .int .i64 0]) (by simp [results, Try.results11, go_sem, q0, q1]) rfl ⟨by rw [H.out], Below.drew (((B2.setCell (p := ⟨w.heap.size, 0, none⟩) (Nat.le_refl _) _).setCell (p := ⟨w.heap.size + 1 + 1 + 1, 0, none⟩) (by simp; omega) _).setCell (p := ⟨w.heap.size + 1 + 1 + 1, 1, none⟩) (by simp; omega) _)⟩
      · by_cases ht : t = 0
        · have H := Lib.hid (show nextR p t a u true = (p, t, 22) by unfold nextR; rw [if_pos ⟨hc, hr⟩, if_pos rfl, if_pos ht])
          have hz : (t == 0) = true := by rw [ht]; rfl
          have HT := Lib.hid ht
          clear hc hr ht
          go_enter Try.func11, Try.ntmps11
          go_wp2_with fail
          refine (check_any p t _).mono ?_; rintro e w' ⟨rfl, rfl⟩
          rw [HC.out]
          go_wp2_with fail
          refine (right_any a u _).mono ?_; rintro e w' ⟨rfl, rfl⟩
          rw [HR.out]
          go_wp2_with fail
          exact bodyPost_ret (v := .tuple #[.agg #[.int .i64 p, .int .i64 t], .int .i64 22]) (by simp [results, Try.results11, go_sem]) rfl ⟨by rw [H.out], (by repeat (first | exact Below.refl _ _ | exact Below.drew (Below.refl _ _) | refine Below.drew ?_ | (refine Below.alloc ?_ (by first | (simp; done) | (simp; omega)) _) | (refine Below.setCell ?_ (by first | (simp; done) | (simp; omega)) _)))⟩
        · have H := Lib.hid (show nextR p t a u true = (p, t - 1, 0) by unfold nextR; rw [if_pos ⟨hc, hr⟩, if_pos rfl, if_neg ht])
          have hz : (t == 0) = false := beq_eq_false_iff_ne.2 ht
          clear hc hr ht
          go_enter Try.func11, Try.ntmps11
          go_wp2_with fail
          refine (check_any p t _).mono ?_; rintro e w' ⟨rfl, rfl⟩
          rw [HC.out]
          go_wp2_with fail
          refine (right_any a u _).mono ?_; rintro e w' ⟨rfl, rfl⟩
          rw [HR.out]
          go_wp2_with fail
          exact bodyPost_ret (v := .tuple #[.agg #[.int .i64 p, .int .i64 (t - 1)], .int .i64 0]) (by simp [results, Try.results11, go_sem]) rfl ⟨by rw [H.out], (by repeat (first | exact Below.refl _ _ | exact Below.drew (Below.refl _ _) | refine Below.drew ?_ | (refine Below.alloc ?_ (by first | (simp; done) | (simp; omega)) _) | (refine Below.setCell ?_ (by first | (simp; done) | (simp; omega)) _)))⟩

end Go.Proofs.Ytidhleeoeapjmaa
