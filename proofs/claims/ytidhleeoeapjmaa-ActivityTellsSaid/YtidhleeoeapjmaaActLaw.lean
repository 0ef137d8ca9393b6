/- The contracts of the statements' own helpers of chapter 17 (awake, part, active, use), and the plain numbers of Need, Keep and Next. -/
import Derived.Test.YtidhleeoeapjmaaAct
namespace Go.Proofs.Ytidhleeoeapjmaa
open Go.RowKit
set_option linter.unusedVariables false

theorem mask30_bd (n : Int) : 0 ≤ bits BinOp.and IntKind.i64 n 1073741823 ∧ bits BinOp.and IntKind.i64 n 1073741823 ≤ 1073741823 := by
  show 0 ≤ IntKind.i64.wrap ((BitVec.ofInt 64 n &&& BitVec.ofInt 64 1073741823).toNat : Int) ∧ IntKind.i64.wrap ((BitVec.ofInt 64 n &&& BitVec.ofInt 64 1073741823).toNat : Int) ≤ 1073741823
  rw [BitVec.toNat_and]
  have h : (BitVec.ofInt 64 n).toNat &&& (BitVec.ofInt 64 1073741823).toNat ≤ 1073741823 := Nat.and_le_right
  generalize (BitVec.ofInt 64 n).toNat &&& (BitVec.ofInt 64 1073741823).toNat = x at *
  rw [IntKind.wrap_i64]
  omega

/-- A part's points, its waits; active points; a use: by numbers. -/
def ptsZ (n : Int) : Int := bits BinOp.and IntKind.i64 n 1073741823
def waitZ (n : Int) : Int := (wrap64 (n.tmod 6 + 6)).tmod 6
def useZ (n : Int) : Int := 1 + (wrap64 (n.tmod 10000 + 10000)).tmod 10000
theorem ptsZ_bd (n : Int) : 0 ≤ ptsZ n ∧ ptsZ n ≤ 1073741823 := mask30_bd n
theorem waitZ_bd (n : Int) : 0 ≤ waitZ n ∧ waitZ n ≤ 5 := rem_twice n 6 (by omega)
theorem useZ_bd (n : Int) : 1 ≤ useZ n ∧ useZ n ≤ 10000 := by
  have := rem_twice n 10000 (by omega)
  unfold useZ
  omega

theorem part_any (p a u t : Int) (w : World) :
    Calls Try.prog 10 #[.agg #[.int .i64 p, .int .i64 a, .int .i64 u, .int .i64 t]] w fun e w' => e = .returned (.agg #[.int .i64 (ptsZ p), .int .i64 (waitZ t)]) ∧ Below w.heap.size w w' := by
  go_enter Try.func10, Try.ntmps10
  go_wp2
  exact bodyPost_ret (v := .agg #[.int .i64 (ptsZ p), .int .i64 (waitZ t)]) (by simp [results, Try.results10, go_sem, ptsZ, waitZ]) rfl ⟨rfl, ((Below.refl _ _).alloc (Nat.le_refl _) _).alloc (by simp) _⟩

theorem active_any (p a u t : Int) (w : World) :
    Calls Try.prog 12 #[.agg #[.int .i64 p, .int .i64 a, .int .i64 u, .int .i64 t]] w fun e w' => e = .returned (.int .i64 (ptsZ a)) ∧ Below w.heap.size w w' := by
  go_enter Try.func12, Try.ntmps12
  go_wp2
  go_ret
  exact ⟨rfl, (Below.refl _ _).alloc (Nat.le_refl _) _⟩

theorem use_any (p a u t : Int) (w : World) (h0 : -9223372036854775808 ≤ u) (h1 : u ≤ 9223372036854775807) :
    Calls Try.prog 13 #[.agg #[.int .i64 p, .int .i64 a, .int .i64 u, .int .i64 t]] w fun e w' => e = .returned (.int .i64 (useZ u)) ∧ Below w.heap.size w w' := by
  have hb := rem_twice u 10000 (by omega)
  obtain ⟨b0, b1⟩ := hb
  go_enter Try.func13, Try.ntmps13
  go_wp2
  go_ret
  exact ⟨rfl, (Below.refl _ _).alloc (Nat.le_refl _) _⟩

theorem next_first : nextR 100 0 60 8000 false = (75, 0, 0) := by decide +kernel
theorem need_first : needV 100 8000 = 80 := by decide +kernel

theorem awake_any (w : World) :
    Calls Try.prog 9 #[] w fun e w' => e = .returned (.bool true) ∧ Below w.heap.size w w' := by
  have n1 := Lib.hid next_first
  have n2 := Lib.hid need_first
  go_enter Try.func9, Try.ntmps9
  go_wp2_with fail
  refine (next_any 100 0 60 8000 false _).mono ?_; rintro e w1 ⟨rfl, hb1⟩
  rw [n1.out]
  go_wp2_with fail
  refine (need_any 100 8000 _).mono ?_; rintro e w2 ⟨rfl, hb2⟩
  rw [n2.out]
  go_wp2_with fail
  go_ret
  exact ⟨rfl, below_step (hb1.alloc hb1.size _) hb2⟩

/-- What is needed is the least that is enough. -/
theorem need_iff (p u a : Int) (h : rightB p u = true) : needV p u ≤ a ↔ p * u ≤ a * 10000 := by
  have hr := right_yes h
  have hm := prod_bd p u 1073741824 10000 ⟨by omega, by omega⟩ ⟨by omega, by omega⟩
  unfold needV
  rw [if_pos h]
  generalize p * u = m at *
  unfold upV addV
  rw [if_neg (by omega)]
  split
  · omega
  · rw [if_pos (by omega)]
    omega
theorem need_bd (p u : Int) (h : rightB p u = true) : 0 ≤ needV p u ∧ needV p u ≤ p := by
  have hr := right_yes h
  have h1 : p * u ≤ p * 10000 := Int.mul_le_mul_of_nonneg_left (by omega) (by omega)
  have h2 := (need_iff p u p h).2 h1
  refine ⟨?_, h2⟩
  have hm := prod_bd p u 1073741824 10000 ⟨by omega, by omega⟩ ⟨by omega, by omega⟩
  have hf := upV_fits (p * u) ⟨by omega, by omega⟩
  unfold needV
  rw [if_pos h]
  omega
theorem check_mk {p t : Int} (h : 0 ≤ p ∧ p ≤ 1073741824 ∧ 0 ≤ t ∧ t ≤ 5) : checkB p t = true := decide_eq_true h
theorem lazy_iff (a p u : Int) (h : rightB p u = true) : lazyB a p u = true ↔ a * 10000 < p * u := by
  have := need_iff p u a h
  unfold lazyB
  rw [decide_eq_true_eq]
  omega
theorem keep_bd (a u : Int) (h : rightB a u = true) : 0 ≤ keepV a u := by
  have hr := right_yes h
  unfold keepV
  rw [if_pos h]
  split
  · exact Int.ediv_nonneg (by omega) (by omega)
  · omega
/-- The five ways of Next, of a part that may be. -/
theorem falls_cases (P T A U : Int) (asked : Bool) (hP : 0 ≤ P ∧ P ≤ 1073741823) (hT : 0 ≤ T ∧ T ≤ 5) (hA : 0 ≤ A ∧ A ≤ 1073741823) (hU : 1 ≤ U ∧ U ≤ 10000) :
    (asked = true ∧ T = 0 ∧ nextR P T A U asked = (P, T, 22)) ∨ (asked = true ∧ T ≠ 0 ∧ nextR P T A U asked = (P, T - 1, 0)) ∨ (asked = false ∧ nextR P T A U asked = (P, T - 1, 0) ∧ A * 10000 < P * U) ∨
    (asked = false ∧ ∃ q, (0 ≤ q ∧ q ≤ P) ∧ nextR P T A U asked = (q, T, 0) ∧ A * 10000 < P * U) ∨ (asked = false ∧ nextR P T A U asked = (P, T, 0)) := by
  have hc : checkB P T = true := check_mk (by omega)
  have hr : rightB A U = true := right_mk (by omega)
  have hr2 : rightB P U = true := right_mk (by omega)
  have hl := lazy_iff A P U hr2
  have hk := keep_bd A U hr
  unfold nextR
  rw [if_pos ⟨hc, hr⟩]
  cases asked
  · rw [if_neg (by simp)]
    by_cases h1 : lazyB A P U = true
    · rw [if_pos h1]
      have h2 := hl.1 h1
      by_cases h3 : 0 < T
      · rw [if_pos h3]
        exact Or.inr (Or.inr (Or.inl ⟨rfl, rfl, h2⟩))
      · rw [if_neg h3]
        refine Or.inr (Or.inr (Or.inr (Or.inl ⟨rfl, _, ?_, rfl, h2⟩)))
        split <;> omega
    · rw [if_neg h1]
      exact Or.inr (Or.inr (Or.inr (Or.inr ⟨rfl, rfl⟩)))
  · rw [if_pos rfl]
    by_cases h1 : T = 0
    · rw [if_pos h1]
      exact Or.inl ⟨rfl, h1, rfl⟩
    · rw [if_neg h1]
      exact Or.inr (Or.inl ⟨rfl, h1, rfl⟩)
theorem six {w : World} {g g' t t' : Nat} {v0 v1 v2 v3 u0 u1 : Value} (h : At w g t #[v0, v1, v2, v3]) (h' : At w g' t' #[u0, u1]) :
    w.cell? ⟨g, 0, none⟩ = some v0 ∧ w.cell? ⟨g, 1, none⟩ = some v1 ∧ w.cell? ⟨g, 2, none⟩ = some v2 ∧ w.cell? ⟨g, 3, none⟩ = some v3 ∧ w.cell? ⟨g', 0, none⟩ = some u0 ∧ w.cell? ⟨g', 1, none⟩ = some u1 :=
  ⟨h.cell 0, h.cell 1, h.cell 2, h.cell 3, h'.cell 0, h'.cell 1⟩
end Go.Proofs.Ytidhleeoeapjmaa
