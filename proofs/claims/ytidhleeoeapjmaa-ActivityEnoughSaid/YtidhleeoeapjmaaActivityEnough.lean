/- 'vendue/venduelaw17.ActivityEnough' answers true at every input, and leaves its arguments as they were: the given statement Rows.ActivityEnoughSaid. No condition. -/
import Derived.Test.YtidhleeoeapjmaaRows
import Derived.Test.YtidhleeoeapjmaaMem
import Derived.WalkKit
import Derived.ProofKit
import Derived.OpenShut
import Derived.Deep.RegionHeld3
import Derived.Deep.DeepCutAuto
import Derived.Test.YtidhleeoeapjmaaActLaw
import Derived.Test.YtidhleeoeapjmaaOpen
namespace Go.Proofs.Ytidhleeoeapjmaa.activityEnough
open Go.ChangeShapes Go.WideShapes Go.ChangeAt Go.RowKit
open Go.ChangeMaps (open_string shut_string)
set_option linter.unusedVariables false

/-- The plain law: what is left is enough. -/
theorem enough_law (P A U : Int) (hP : 0 ≤ P ∧ P ≤ 1073741823) (hA : 0 ≤ A ∧ A ≤ 1073741823) (hU : 1 ≤ U ∧ U ≤ 10000) :
    ∃ X, 0 ≤ X ∧ X ≤ 1073741823 ∧ nextR P 0 A U false = (X, 0, 0) ∧ nextR X 0 A U false = (X, 0, 0) ∧ needV X U ≤ A := by
  have hc : checkB P 0 = true := check_mk (by omega)
  have hr : rightB A U = true := right_mk (by omega)
  have key : ∀ X, 0 ≤ X → X ≤ 1073741823 → X * U ≤ A * 10000 → nextR X 0 A U false = (X, 0, 0) ∧ needV X U ≤ A := fun X x0 x1 h => by
    have hr2 : rightB X U = true := right_mk (by omega)
    have hn := (need_iff X U A hr2).2 h
    have hl : ¬ lazyB A X U = true := fun h' => by
      have := (lazy_iff A X U hr2).1 h'
      omega
    refine ⟨?_, hn⟩
    unfold nextR
    rw [if_pos ⟨check_mk (by omega), hr⟩, if_neg (by simp), if_neg hl]
  have hr2 : rightB P U = true := right_mk (by omega)
  by_cases h1 : lazyB A P U = true
  · have hk := keep_bd A U hr
    have hv : nextR P 0 A U false = (if keepV A U < P then keepV A U else P, 0, 0) := by
      unfold nextR
      rw [if_pos ⟨hc, hr⟩, if_neg (by simp), if_pos h1, if_neg (by omega)]
    have hle : keepV A U * U ≤ A * 10000 := by
      have h3 : A * 10000 / U * U ≤ A * 10000 := Int.ediv_mul_le _ (by omega)
      unfold keepV
      rw [if_pos hr]
      split
      · exact h3
      · have : 1073741824 * U ≤ A * 10000 / U * U := Int.mul_le_mul_of_nonneg_right (by omega) (by omega)
        omega
    have h2 := (lazy_iff A P U hr2).1 h1
    by_cases h4 : keepV A U < P
    · rw [if_pos h4] at hv
      obtain ⟨k1, k2⟩ := key (keepV A U) hk (by omega) hle
      exact ⟨keepV A U, hk, by omega, hv, k1, k2⟩
    · exfalso
      have : P * U ≤ keepV A U * U := Int.mul_le_mul_of_nonneg_right (by omega) (by omega)
      omega
  · have h2 : P * U ≤ A * 10000 := Int.not_lt.1 fun h => h1 ((lazy_iff A P U hr2).2 h)
    obtain ⟨k1, k2⟩ := key P hP.1 hP.2 h2
    exact ⟨P, hP.1, hP.2, k1, k1, k2⟩

set_option maxRecDepth 100000 in
set_option maxHeartbeats 8000000 in
theorem walk (p a u t : Int) (w : World) (hp : (Lit.int .i64 p).wf = true) (ha : (Lit.int .i64 a).wf = true) (hu : (Lit.int .i64 u).wf = true) (ht : (Lit.int .i64 t).wf = true) :
    Calls Try.prog 4 #[.agg #[.int .i64 p, .int .i64 a, .int .i64 u, .int .i64 t]] w fun e w' => e = .returned (.bool true) ∧ Below w.heap.size w w' := by
  obtain ⟨u0, u1⟩ := bd_i64 _ hu
  have bP := ptsZ_bd p
  have bA := ptsZ_bd a
  have bT := waitZ_bd t
  have bU := useZ_bd u
  obtain ⟨P, hP'⟩ : ∃ P, P = ptsZ p := ⟨_, rfl⟩
  obtain ⟨T, hT'⟩ : ∃ T, T = waitZ t := ⟨_, rfl⟩
  obtain ⟨A, hA'⟩ : ∃ A, A = ptsZ a := ⟨_, rfl⟩
  obtain ⟨U, hU'⟩ : ∃ U, U = useZ u := ⟨_, rfl⟩
  rw [← hP'] at bP
  rw [← hT'] at bT
  rw [← hA'] at bA
  rw [← hU'] at bU
  have hP := Lib.hid hP'.symm
  have hT := Lib.hid hT'.symm
  have hA := Lib.hid hA'.symm
  have hU := Lib.hid hU'.symm
  clear hP' hT' hA' hU' hp ha hu ht
  obtain ⟨X, x0, x1, r1', r2', n1⟩ := enough_law P A U bP bA bU
  have r1 := Lib.hid r1'
  have r2 := Lib.hid r2'
  clear r1' r2'
  go_enter Try.func4, Try.ntmps4
  go_wp2_with fail
  refine (awake_any _).mono ?_; rintro e w1 ⟨rfl, hb1⟩
  have B1 := below_step ((Below.refl _ _).alloc (Nat.le_refl _) _) hb1
  have N1 := (At.new w 23 #[.int .i64 p, .int .i64 a, .int .i64 u, .int .i64 t]).below hb1 (by simp)
  clear hb1
  have n0 := N1.cell 0
  have n1 := N1.cell 1
  have n2 := N1.cell 2
  have n3 := N1.cell 3
  go_wp2_with fail
  clear n0 n1 n2 n3
  refine (part_any p a u t _).mono ?_; rintro e w2 ⟨rfl, hb2⟩
  rw [hP.out, hT.out]
  have B2 := below_step B1 hb2
  have N2 := N1.below hb2 N1.lt
  clear N1 B1 hb2
  go_upto_region 4 with fail
  obtain ⟨W3, hW3⟩ : ∃ W3, W3 = w2.alloc (.cells #[.int .i64 P, .int .i64 0] 26) := ⟨_, rfl⟩
  rw [← hW3]
  have B3 : Below w.heap.size w W3 := by rw [hW3]; exact B2.alloc B2.size _
  have N3 : At W3 w.heap.size 23 #[.int .i64 p, .int .i64 a, .int .i64 u, .int .i64 t] := by rw [hW3]; exact N2.alloc _
  have S3 : At W3 w2.heap.size 26 #[.int .i64 P, .int .i64 0] := by rw [hW3]; exact At.new _ _ _
  have l0 := N2.lt
  have l3 := S3.lt
  clear hW3 B2 N2
  go_cut [5, 6] (fun s5 s6 wx => ∃ b5 : Nat, s5 = .pointer (some ⟨b5, 0, none⟩) ∧ s6 = .int .i64 0 ∧ w2.heap.size < b5 ∧ At wx w.heap.size 23 #[.int .i64 p, .int .i64 a, .int .i64 u, .int .i64 t] ∧ At wx w2.heap.size 26 #[.int .i64 P, .int .i64 0] ∧ At wx b5 26 #[.int .i64 X, .int .i64 0] ∧ Below w.heap.size w wx)
  case first =>
    have m0 := N3.lt
    have m1 := S3.lt
    have c00 := N3.cell 0
    have c01 := N3.cell 1
    have c02 := N3.cell 2
    have c03 := N3.cell 3
    have c10 := S3.cell 0
    have c11 := S3.cell 1
    go_region_held3 (fun w' => w'.cell? ⟨w.heap.size, 0, none⟩ = some (.int .i64 p) ∧ w'.cell? ⟨w.heap.size, 1, none⟩ = some (.int .i64 a) ∧ w'.cell? ⟨w.heap.size, 2, none⟩ = some (.int .i64 u) ∧ w'.cell? ⟨w.heap.size, 3, none⟩ = some (.int .i64 t) ∧ w'.cell? ⟨w2.heap.size, 0, none⟩ = some (.int .i64 P) ∧ w'.cell? ⟨w2.heap.size, 1, none⟩ = some (.int .i64 0))
      (first | exact ⟨c00, c01, c02, c03, c10, c11⟩ | exact ⟨At.cell (t := 23) (cs := #[.int .i64 p, .int .i64 a, .int .i64 u, .int .i64 t]) (by repeat (first | with_reducible assumption | with_reducible exact At.new _ _ _ | with_reducible refine At.drew ?_ | with_reducible refine At.alloc ?_ _ | (with_reducible refine At.far ?_ ?_ _; rotate_left; ((try have q4 := hb4.size); (try have q5 := hb5.size); (try have q6 := hb6.size); (try simp at q4); (try simp at q5); (try simp at q6); simp; omega)) | (with_reducible refine At.step ?_ (by with_reducible assumption)))) 0, At.cell (t := 23) (cs := #[.int .i64 p, .int .i64 a, .int .i64 u, .int .i64 t]) (by repeat (first | with_reducible assumption | with_reducible exact At.new _ _ _ | with_reducible refine At.drew ?_ | with_reducible refine At.alloc ?_ _ | (with_reducible refine At.far ?_ ?_ _; rotate_left; ((try have q4 := hb4.size); (try have q5 := hb5.size); (try have q6 := hb6.size); (try simp at q4); (try simp at q5); (try simp at q6); simp; omega)) | (with_reducible refine At.step ?_ (by with_reducible assumption)))) 1, At.cell (t := 23) (cs := #[.int .i64 p, .int .i64 a, .int .i64 u, .int .i64 t]) (by repeat (first | with_reducible assumption | with_reducible exact At.new _ _ _ | with_reducible refine At.drew ?_ | with_reducible refine At.alloc ?_ _ | (with_reducible refine At.far ?_ ?_ _; rotate_left; ((try have q4 := hb4.size); (try have q5 := hb5.size); (try have q6 := hb6.size); (try simp at q4); (try simp at q5); (try simp at q6); simp; omega)) | (with_reducible refine At.step ?_ (by with_reducible assumption)))) 2, At.cell (t := 23) (cs := #[.int .i64 p, .int .i64 a, .int .i64 u, .int .i64 t]) (by repeat (first | with_reducible assumption | with_reducible exact At.new _ _ _ | with_reducible refine At.drew ?_ | with_reducible refine At.alloc ?_ _ | (with_reducible refine At.far ?_ ?_ _; rotate_left; ((try have q4 := hb4.size); (try have q5 := hb5.size); (try have q6 := hb6.size); (try simp at q4); (try simp at q5); (try simp at q6); simp; omega)) | (with_reducible refine At.step ?_ (by with_reducible assumption)))) 3, At.cell (t := 26) (cs := #[.int .i64 P, .int .i64 0]) (by repeat (first | with_reducible assumption | with_reducible exact At.new _ _ _ | with_reducible refine At.drew ?_ | with_reducible refine At.alloc ?_ _ | (with_reducible refine At.far ?_ ?_ _; rotate_left; ((try have q4 := hb4.size); (try have q5 := hb5.size); (try have q6 := hb6.size); (try simp at q4); (try simp at q5); (try simp at q6); simp; omega)) | (with_reducible refine At.step ?_ (by with_reducible assumption)))) 0, At.cell (t := 26) (cs := #[.int .i64 P, .int .i64 0]) (by repeat (first | with_reducible assumption | with_reducible exact At.new _ _ _ | with_reducible refine At.drew ?_ | with_reducible refine At.alloc ?_ _ | (with_reducible refine At.far ?_ ?_ _; rotate_left; ((try have q4 := hb4.size); (try have q5 := hb5.size); (try have q6 := hb6.size); (try simp at q4); (try simp at q5); (try simp at q6); simp; omega)) | (with_reducible refine At.step ?_ (by with_reducible assumption)))) 1⟩)
      (first
        | (go_at_call 12; refine (active_any p a u t _).mono ?_; rintro e w4 ⟨rfl, hb4⟩; rw [hA.out]; (first | with_reducible have R4 := At.step (At.new _ 26 #[.int .i64 0, .int .i64 0]) hb4 | with_reducible have R4 := At.step (At.drew (At.new _ 26 #[.int .i64 0, .int .i64 0])) hb4 | skip))
        | (go_at_call 13; refine (use_any p a u t _ u0 u1).mono ?_; rintro e w5 ⟨rfl, hb5⟩; rw [hU.out]; (first | have R5 := R4.step hb5 | with_reducible have R5 := At.step (At.new _ 26 #[.int .i64 0, .int .i64 0]) hb5 | with_reducible have R5 := At.step (At.drew (At.new _ 26 #[.int .i64 0, .int .i64 0])) hb5 | skip))
        | (go_at_call 11; refine (next_any _ _ _ _ _ _).mono ?_; rintro e w6 ⟨rfl, hb6⟩; rw [r1.out]; (first | have R6 := R5.step hb6 | with_reducible have R6 := At.step (At.new _ 26 #[.int .i64 0, .int .i64 0]) hb6 | with_reducible have R6 := At.step (At.drew (At.new _ 26 #[.int .i64 0, .int .i64 0])) hb6 | skip); (first | (have rr0 := R6.cell 0; have rr1 := R6.cell 1; have rf0 := R6.free 0; have rf1 := R6.free 1; try simp only [World.size_drew] at rr0 rr1 rf0 rf1) | skip)))
    all_goals
      go_wp2_with fail
      go_meet
      refine ⟨_, rfl, rfl, ?_, ?_, ?_, ?_, ?_⟩
      · ((try have q4 := hb4.size); (try have q5 := hb5.size); (try have q6 := hb6.size); (try simp at q4); (try simp at q5); (try simp at q6); simp; omega)
      · (repeat (first | with_reducible assumption | with_reducible exact At.new _ _ _ | with_reducible refine At.drew ?_ | with_reducible refine At.alloc ?_ _ | (with_reducible refine At.far ?_ ?_ _; rotate_left; ((try have q4 := hb4.size); (try have q5 := hb5.size); (try have q6 := hb6.size); (try simp at q4); (try simp at q5); (try simp at q6); simp; omega)) | (with_reducible refine At.step ?_ (by with_reducible assumption))))
      · (repeat (first | with_reducible assumption | with_reducible exact At.new _ _ _ | with_reducible refine At.drew ?_ | with_reducible refine At.alloc ?_ _ | (with_reducible refine At.far ?_ ?_ _; rotate_left; ((try have q4 := hb4.size); (try have q5 := hb5.size); (try have q6 := hb6.size); (try simp at q4); (try simp at q5); (try simp at q6); simp; omega)) | (with_reducible refine At.step ?_ (by with_reducible assumption))))
      · first | exact At.put2 (by repeat (first | with_reducible assumption | with_reducible exact At.new _ _ _ | with_reducible refine At.drew ?_ | with_reducible refine At.alloc ?_ _ | (with_reducible refine At.far ?_ ?_ _; rotate_left; ((try have q4 := hb4.size); (try have q5 := hb5.size); (try have q6 := hb6.size); (try simp at q4); (try simp at q5); (try simp at q6); simp; omega)) | (with_reducible refine At.step ?_ (by with_reducible assumption)))) | (with_reducible exact At.new _ _ _)
      · (repeat (first | with_reducible assumption | with_reducible refine Below.drew ?_ | (with_reducible refine Below.alloc ?_ ?_ _; rotate_left; ((try have q4 := hb4.size); (try have q5 := hb5.size); (try have q6 := hb6.size); (try simp at q4); (try simp at q5); (try simp at q6); simp; omega)) | (with_reducible refine Below.setCell ?_ ?_ _; rotate_left; ((try have q4 := hb4.size); (try have q5 := hb5.size); (try have q6 := hb6.size); (try simp at q4); (try simp at q5); (try simp at q6); simp; omega)) | (with_reducible refine below_step ?_ (by with_reducible assumption))))
  case rest =>
    obtain ⟨b5, rfl, rfl, l7, N7, S7, R7, B7⟩ := hcut
    go_wp2_with fail
    go_cut [7, 8] (fun s7 s8 wx => ∃ b7 : Nat, s7 = .pointer (some ⟨b7, 0, none⟩) ∧ s8 = .int .i64 0 ∧ b5 < b7 ∧ At wx w.heap.size 23 #[.int .i64 p, .int .i64 a, .int .i64 u, .int .i64 t] ∧ At wx w2.heap.size 26 #[.int .i64 P, .int .i64 0] ∧ At wx b5 26 #[.int .i64 X, .int .i64 0] ∧ At wx b7 26 #[.int .i64 X, .int .i64 0] ∧ Below w.heap.size w wx)
    case first =>
      have m0 := N7.lt
      have m1 := S7.lt
      have m2 := R7.lt
      have c00 := N7.cell 0
      have c01 := N7.cell 1
      have c02 := N7.cell 2
      have c03 := N7.cell 3
      have c10 := S7.cell 0
      have c11 := S7.cell 1
      have c20 := R7.cell 0
      have c21 := R7.cell 1
      go_region_held3 (fun w' => w'.cell? ⟨w.heap.size, 0, none⟩ = some (.int .i64 p) ∧ w'.cell? ⟨w.heap.size, 1, none⟩ = some (.int .i64 a) ∧ w'.cell? ⟨w.heap.size, 2, none⟩ = some (.int .i64 u) ∧ w'.cell? ⟨w.heap.size, 3, none⟩ = some (.int .i64 t) ∧ w'.cell? ⟨w2.heap.size, 0, none⟩ = some (.int .i64 P) ∧ w'.cell? ⟨w2.heap.size, 1, none⟩ = some (.int .i64 0) ∧ w'.cell? ⟨b5, 0, none⟩ = some (.int .i64 X) ∧ w'.cell? ⟨b5, 1, none⟩ = some (.int .i64 0))
        (first | exact ⟨c00, c01, c02, c03, c10, c11, c20, c21⟩ | exact ⟨At.cell (t := 23) (cs := #[.int .i64 p, .int .i64 a, .int .i64 u, .int .i64 t]) (by repeat (first | with_reducible assumption | with_reducible exact At.new _ _ _ | with_reducible refine At.drew ?_ | with_reducible refine At.alloc ?_ _ | (with_reducible refine At.far ?_ ?_ _; rotate_left; ((try have q4 := hb4.size); (try have q5 := hb5.size); (try have q6 := hb6.size); (try simp at q4); (try simp at q5); (try simp at q6); simp; omega)) | (with_reducible refine At.step ?_ (by with_reducible assumption)))) 0, At.cell (t := 23) (cs := #[.int .i64 p, .int .i64 a, .int .i64 u, .int .i64 t]) (by repeat (first | with_reducible assumption | with_reducible exact At.new _ _ _ | with_reducible refine At.drew ?_ | with_reducible refine At.alloc ?_ _ | (with_reducible refine At.far ?_ ?_ _; rotate_left; ((try have q4 := hb4.size); (try have q5 := hb5.size); (try have q6 := hb6.size); (try simp at q4); (try simp at q5); (try simp at q6); simp; omega)) | (with_reducible refine At.step ?_ (by with_reducible assumption)))) 1, At.cell (t := 23) (cs := #[.int .i64 p, .int .i64 a, .int .i64 u, .int .i64 t]) (by repeat (first | with_reducible assumption | with_reducible exact At.new _ _ _ | with_reducible refine At.drew ?_ | with_reducible refine At.alloc ?_ _ | (with_reducible refine At.far ?_ ?_ _; rotate_left; ((try have q4 := hb4.size); (try have q5 := hb5.size); (try have q6 := hb6.size); (try simp at q4); (try simp at q5); (try simp at q6); simp; omega)) | (with_reducible refine At.step ?_ (by with_reducible assumption)))) 2, At.cell (t := 23) (cs := #[.int .i64 p, .int .i64 a, .int .i64 u, .int .i64 t]) (by repeat (first | with_reducible assumption | with_reducible exact At.new _ _ _ | with_reducible refine At.drew ?_ | with_reducible refine At.alloc ?_ _ | (with_reducible refine At.far ?_ ?_ _; rotate_left; ((try have q4 := hb4.size); (try have q5 := hb5.size); (try have q6 := hb6.size); (try simp at q4); (try simp at q5); (try simp at q6); simp; omega)) | (with_reducible refine At.step ?_ (by with_reducible assumption)))) 3, At.cell (t := 26) (cs := #[.int .i64 P, .int .i64 0]) (by repeat (first | with_reducible assumption | with_reducible exact At.new _ _ _ | with_reducible refine At.drew ?_ | with_reducible refine At.alloc ?_ _ | (with_reducible refine At.far ?_ ?_ _; rotate_left; ((try have q4 := hb4.size); (try have q5 := hb5.size); (try have q6 := hb6.size); (try simp at q4); (try simp at q5); (try simp at q6); simp; omega)) | (with_reducible refine At.step ?_ (by with_reducible assumption)))) 0, At.cell (t := 26) (cs := #[.int .i64 P, .int .i64 0]) (by repeat (first | with_reducible assumption | with_reducible exact At.new _ _ _ | with_reducible refine At.drew ?_ | with_reducible refine At.alloc ?_ _ | (with_reducible refine At.far ?_ ?_ _; rotate_left; ((try have q4 := hb4.size); (try have q5 := hb5.size); (try have q6 := hb6.size); (try simp at q4); (try simp at q5); (try simp at q6); simp; omega)) | (with_reducible refine At.step ?_ (by with_reducible assumption)))) 1, At.cell (t := 26) (cs := #[.int .i64 X, .int .i64 0]) (by repeat (first | with_reducible assumption | with_reducible exact At.new _ _ _ | with_reducible refine At.drew ?_ | with_reducible refine At.alloc ?_ _ | (with_reducible refine At.far ?_ ?_ _; rotate_left; ((try have q4 := hb4.size); (try have q5 := hb5.size); (try have q6 := hb6.size); (try simp at q4); (try simp at q5); (try simp at q6); simp; omega)) | (with_reducible refine At.step ?_ (by with_reducible assumption)))) 0, At.cell (t := 26) (cs := #[.int .i64 X, .int .i64 0]) (by repeat (first | with_reducible assumption | with_reducible exact At.new _ _ _ | with_reducible refine At.drew ?_ | with_reducible refine At.alloc ?_ _ | (with_reducible refine At.far ?_ ?_ _; rotate_left; ((try have q4 := hb4.size); (try have q5 := hb5.size); (try have q6 := hb6.size); (try simp at q4); (try simp at q5); (try simp at q6); simp; omega)) | (with_reducible refine At.step ?_ (by with_reducible assumption)))) 1⟩)
        (first
          | (go_at_call 12; refine (active_any p a u t _).mono ?_; rintro e w4 ⟨rfl, hb4⟩; rw [hA.out]; (first | with_reducible have R4 := At.step (At.new _ 26 #[.int .i64 0, .int .i64 0]) hb4 | with_reducible have R4 := At.step (At.drew (At.new _ 26 #[.int .i64 0, .int .i64 0])) hb4 | skip))
          | (go_at_call 13; refine (use_any p a u t _ u0 u1).mono ?_; rintro e w5 ⟨rfl, hb5⟩; rw [hU.out]; (first | have R5 := R4.step hb5 | with_reducible have R5 := At.step (At.new _ 26 #[.int .i64 0, .int .i64 0]) hb5 | with_reducible have R5 := At.step (At.drew (At.new _ 26 #[.int .i64 0, .int .i64 0])) hb5 | skip))
          | (go_at_call 11; refine (next_any _ _ _ _ _ _).mono ?_; rintro e w6 ⟨rfl, hb6⟩; rw [r2.out]; (first | have R6 := R5.step hb6 | with_reducible have R6 := At.step (At.new _ 26 #[.int .i64 0, .int .i64 0]) hb6 | with_reducible have R6 := At.step (At.drew (At.new _ 26 #[.int .i64 0, .int .i64 0])) hb6 | skip); (first | (have rr0 := R6.cell 0; have rr1 := R6.cell 1; have rf0 := R6.free 0; have rf1 := R6.free 1; try simp only [World.size_drew] at rr0 rr1 rf0 rf1) | skip)))
      all_goals
        go_wp2_with fail
        go_meet
        refine ⟨_, rfl, rfl, ?_, ?_, ?_, ?_, ?_, ?_⟩
        · ((try have q4 := hb4.size); (try have q5 := hb5.size); (try have q6 := hb6.size); (try simp at q4); (try simp at q5); (try simp at q6); simp; omega)
        · (repeat (first | with_reducible assumption | with_reducible exact At.new _ _ _ | with_reducible refine At.drew ?_ | with_reducible refine At.alloc ?_ _ | (with_reducible refine At.far ?_ ?_ _; rotate_left; ((try have q4 := hb4.size); (try have q5 := hb5.size); (try have q6 := hb6.size); (try simp at q4); (try simp at q5); (try simp at q6); simp; omega)) | (with_reducible refine At.step ?_ (by with_reducible assumption))))
        · (repeat (first | with_reducible assumption | with_reducible exact At.new _ _ _ | with_reducible refine At.drew ?_ | with_reducible refine At.alloc ?_ _ | (with_reducible refine At.far ?_ ?_ _; rotate_left; ((try have q4 := hb4.size); (try have q5 := hb5.size); (try have q6 := hb6.size); (try simp at q4); (try simp at q5); (try simp at q6); simp; omega)) | (with_reducible refine At.step ?_ (by with_reducible assumption))))
        · (repeat (first | with_reducible assumption | with_reducible exact At.new _ _ _ | with_reducible refine At.drew ?_ | with_reducible refine At.alloc ?_ _ | (with_reducible refine At.far ?_ ?_ _; rotate_left; ((try have q4 := hb4.size); (try have q5 := hb5.size); (try have q6 := hb6.size); (try simp at q4); (try simp at q5); (try simp at q6); simp; omega)) | (with_reducible refine At.step ?_ (by with_reducible assumption))))
        · first | exact At.put2 (by repeat (first | with_reducible assumption | with_reducible exact At.new _ _ _ | with_reducible refine At.drew ?_ | with_reducible refine At.alloc ?_ _ | (with_reducible refine At.far ?_ ?_ _; rotate_left; ((try have q4 := hb4.size); (try have q5 := hb5.size); (try have q6 := hb6.size); (try simp at q4); (try simp at q5); (try simp at q6); simp; omega)) | (with_reducible refine At.step ?_ (by with_reducible assumption)))) | (with_reducible exact At.new _ _ _)
        · (repeat (first | with_reducible assumption | with_reducible refine Below.drew ?_ | (with_reducible refine Below.alloc ?_ ?_ _; rotate_left; ((try have q4 := hb4.size); (try have q5 := hb5.size); (try have q6 := hb6.size); (try simp at q4); (try simp at q5); (try simp at q6); simp; omega)) | (with_reducible refine Below.setCell ?_ ?_ _; rotate_left; ((try have q4 := hb4.size); (try have q5 := hb5.size); (try have q6 := hb6.size); (try simp at q4); (try simp at q5); (try simp at q6); simp; omega)) | (with_reducible refine below_step ?_ (by with_reducible assumption))))
    case rest =>
      obtain ⟨b7, rfl, rfl, l9, N9, S9, R9, Q9, B9⟩ := hcut
      go_wp2_with fail
      have m0 := N9.lt
      have m1 := R9.lt
      have m2 := Q9.lt
      have c00 := N9.cell 0
      have c01 := N9.cell 1
      have c02 := N9.cell 2
      have c03 := N9.cell 3
      have c10 := R9.cell 0
      have c11 := R9.cell 1
      have c20 := Q9.cell 0
      have c21 := Q9.cell 1
      go_region_held3 (fun w' => w'.cell? ⟨w.heap.size, 0, none⟩ = some (.int .i64 p) ∧ w'.cell? ⟨w.heap.size, 1, none⟩ = some (.int .i64 a) ∧ w'.cell? ⟨w.heap.size, 2, none⟩ = some (.int .i64 u) ∧ w'.cell? ⟨w.heap.size, 3, none⟩ = some (.int .i64 t) ∧ w'.cell? ⟨b5, 0, none⟩ = some (.int .i64 X) ∧ w'.cell? ⟨b5, 1, none⟩ = some (.int .i64 0) ∧ w'.cell? ⟨b7, 0, none⟩ = some (.int .i64 X) ∧ w'.cell? ⟨b7, 1, none⟩ = some (.int .i64 0))
        (first | exact ⟨c00, c01, c02, c03, c10, c11, c20, c21⟩ | exact ⟨At.cell (t := 23) (cs := #[.int .i64 p, .int .i64 a, .int .i64 u, .int .i64 t]) (by repeat (first | with_reducible assumption | with_reducible exact At.new _ _ _ | with_reducible refine At.drew ?_ | with_reducible refine At.alloc ?_ _ | (with_reducible refine At.far ?_ ?_ _; rotate_left; ((try have q4 := hb4.size); (try have q5 := hb5.size); (try have q6 := hb6.size); (try simp at q4); (try simp at q5); (try simp at q6); simp; omega)) | (with_reducible refine At.step ?_ (by with_reducible assumption)))) 0, At.cell (t := 23) (cs := #[.int .i64 p, .int .i64 a, .int .i64 u, .int .i64 t]) (by repeat (first | with_reducible assumption | with_reducible exact At.new _ _ _ | with_reducible refine At.drew ?_ | with_reducible refine At.alloc ?_ _ | (with_reducible refine At.far ?_ ?_ _; rotate_left; ((try have q4 := hb4.size); (try have q5 := hb5.size); (try have q6 := hb6.size); (try simp at q4); (try simp at q5); (try simp at q6); simp; omega)) | (with_reducible refine At.step ?_ (by with_reducible assumption)))) 1, At.cell (t := 23) (cs := #[.int .i64 p, .int .i64 a, .int .i64 u, .int .i64 t]) (by repeat (first | with_reducible assumption | with_reducible exact At.new _ _ _ | with_reducible refine At.drew ?_ | with_reducible refine At.alloc ?_ _ | (with_reducible refine At.far ?_ ?_ _; rotate_left; ((try have q4 := hb4.size); (try have q5 := hb5.size); (try have q6 := hb6.size); (try simp at q4); (try simp at q5); (try simp at q6); simp; omega)) | (with_reducible refine At.step ?_ (by with_reducible assumption)))) 2, At.cell (t := 23) (cs := #[.int .i64 p, .int .i64 a, .int .i64 u, .int .i64 t]) (by repeat (first | with_reducible assumption | with_reducible exact At.new _ _ _ | with_reducible refine At.drew ?_ | with_reducible refine At.alloc ?_ _ | (with_reducible refine At.far ?_ ?_ _; rotate_left; ((try have q4 := hb4.size); (try have q5 := hb5.size); (try have q6 := hb6.size); (try simp at q4); (try simp at q5); (try simp at q6); simp; omega)) | (with_reducible refine At.step ?_ (by with_reducible assumption)))) 3, At.cell (t := 26) (cs := #[.int .i64 X, .int .i64 0]) (by repeat (first | with_reducible assumption | with_reducible exact At.new _ _ _ | with_reducible refine At.drew ?_ | with_reducible refine At.alloc ?_ _ | (with_reducible refine At.far ?_ ?_ _; rotate_left; ((try have q4 := hb4.size); (try have q5 := hb5.size); (try have q6 := hb6.size); (try simp at q4); (try simp at q5); (try simp at q6); simp; omega)) | (with_reducible refine At.step ?_ (by with_reducible assumption)))) 0, At.cell (t := 26) (cs := #[.int .i64 X, .int .i64 0]) (by repeat (first | with_reducible assumption | with_reducible exact At.new _ _ _ | with_reducible refine At.drew ?_ | with_reducible refine At.alloc ?_ _ | (with_reducible refine At.far ?_ ?_ _; rotate_left; ((try have q4 := hb4.size); (try have q5 := hb5.size); (try have q6 := hb6.size); (try simp at q4); (try simp at q5); (try simp at q6); simp; omega)) | (with_reducible refine At.step ?_ (by with_reducible assumption)))) 1, At.cell (t := 26) (cs := #[.int .i64 X, .int .i64 0]) (by repeat (first | with_reducible assumption | with_reducible exact At.new _ _ _ | with_reducible refine At.drew ?_ | with_reducible refine At.alloc ?_ _ | (with_reducible refine At.far ?_ ?_ _; rotate_left; ((try have q4 := hb4.size); (try have q5 := hb5.size); (try have q6 := hb6.size); (try simp at q4); (try simp at q5); (try simp at q6); simp; omega)) | (with_reducible refine At.step ?_ (by with_reducible assumption)))) 0, At.cell (t := 26) (cs := #[.int .i64 X, .int .i64 0]) (by repeat (first | with_reducible assumption | with_reducible exact At.new _ _ _ | with_reducible refine At.drew ?_ | with_reducible refine At.alloc ?_ _ | (with_reducible refine At.far ?_ ?_ _; rotate_left; ((try have q4 := hb4.size); (try have q5 := hb5.size); (try have q6 := hb6.size); (try simp at q4); (try simp at q5); (try simp at q6); simp; omega)) | (with_reducible refine At.step ?_ (by with_reducible assumption)))) 1⟩)
        (first
          | (go_at_call 13; refine (use_any p a u t _ u0 u1).mono ?_; rintro e w4 ⟨rfl, hb4⟩; rw [hU.out])
          | (go_at_call 14; refine (need_any X U _).mono ?_; rintro e w5 ⟨rfl, hb5⟩)
          | (go_at_call 12; refine (active_any p a u t _).mono ?_; rintro e w6 ⟨rfl, hb6⟩; rw [hA.out]))
      go_wp2_with fail
      go_ret
      exact ⟨rfl, by (repeat (first | with_reducible assumption | with_reducible refine Below.drew ?_ | (with_reducible refine Below.alloc ?_ ?_ _; rotate_left; ((try have q4 := hb4.size); (try have q5 := hb5.size); (try have q6 := hb6.size); (try simp at q4); (try simp at q5); (try simp at q6); simp; omega)) | (with_reducible refine Below.setCell ?_ ?_ _; rotate_left; ((try have q4 := hb4.size); (try have q5 := hb5.size); (try have q6 := hb6.size); (try simp at q4); (try simp at q5); (try simp at q6); simp; omega)) | (with_reducible refine below_step ?_ (by with_reducible assumption))))⟩

theorem own : ownKnob Try.prog.godebug = none := by kernel_rfl
theorem laidOut : laidOutB Try.prog = true := by kernel_rfl

set_option maxRecDepth 100000 in
theorem lifted (os : Os) (started : os.Started) (H : Type) (enc : TypeId × Value → H) :
    ReturnsInHanded {} Try.checked os 4 .any (Rows.activityEnoughSpec.pre6 enc Try.prog Try.f4 Rows.activityEnoughRow.domain false) (Rows.activityEnoughSpec.post enc Try.prog Try.f4 false true false false) := by
  refine returnsInHanded_of_change (C := Try.checked) own started (by kernel_rfl) Try.func4
    (ChangeSpec.witness6 (enc := enc) (C := Try.checked) false ⟨#[], #[.agg #[.int .i64 0, .int .i64 0, .int .i64 0, .int .i64 0]], []⟩ 8 (by kernel_rfl) (by kernel_rfl) (by kernel_rfl) (by kernel_rfl)) ?_
  intro W base args ds gs before hval0 hW hcnd hsz
  have hval : ∀ (j : Nat) t v, Try.f4.params[j]? = some t → args[j]? = some v → Value.okWide Try.prog W .any base t v := hval0
  have hW' := hW
  obtain ⟨p, q, hA0, hV, rfl, hfz, hnd⟩ := hW
  have hA : DataW.TrodAll enc Try.prog W 0 (fun _ => true) true Try.f4.params.toList args.toList ds p := hA0
  rw [Try.params4] at hA hval
  obtain ⟨v0, vs0, d0, ds0, p0, q0, hargs, rfl, rfl, h0, r0⟩ := trodAll_cons hA
  obtain ⟨rfl, rfl, rfl⟩ := trodAll_nil r0
  obtain rfl : args = #[v0] := by cases args; simp_all
  obtain ⟨rfl, rfl⟩ := trodVars_none hV
  obtain ⟨p, a, u, t, rfl, hp, ha, hu, ht⟩ := open_num Try.underlying23 (by kernel_rfl) (by kernel_rfl) rfl rfl rfl rfl Try.underlying2 Try.underlying3 (hval 0 23 v0 rfl rfl) h0
  refine (walk p a u t W hp ha hu ht).mono fun e W' ⟨he, hg⟩ => ?_
  subst he
  exact ⟨_, rfl, post_law laidOut (by kernel_rfl) rfl Try.underlying4 hW' rfl rfl hg⟩

theorem over : Rows.activityEnoughRow.holds Try.pinned (OpenSpec.ofChange Rows.activityEnoughSpec) :=
  OpenClaim.holds_of_wide 4 Try.f4 rfl rfl rfl rfl rfl rfl rfl ⟨rfl, rfl, rfl, rfl, rfl⟩ rfl rfl rfl rfl rfl (by kernel_rfl) Try.func4 (by kernel_rfl)
    (of_decide_eq_true (by kernel_rfl)) (by unfold Func.isWrapper; first | (rw [if_pos (by decide +kernel)]; kernel_rfl) | (rw [if_neg (by decide +kernel)]; exact ⟨rfl, rfl⟩))
    (fun os started H enc _ => lifted os started H enc)

/-- THE STATEMENT. -/
theorem proved : Rows.ActivityEnoughSaid := over
#print axioms proved
end Go.Proofs.Ytidhleeoeapjmaa.activityEnough
