/- 'vendue/venduelaw17.ActivityNeed' answers true at every input, and leaves its arguments as they were: the given statement Rows.ActivityNeedSaid. No condition. -/
import Derived.Test.YtidhleeoeapjmaaRows
import Derived.Test.YtidhleeoeapjmaaMem
import Derived.WalkKit
import Derived.ProofKit
import Derived.OpenShut
import Derived.Deep.RegionHeld3
import Derived.Deep.DeepCutAuto
import Derived.Test.YtidhleeoeapjmaaActLaw
import Derived.Test.YtidhleeoeapjmaaOpen
namespace Go.Proofs.Ytidhleeoeapjmaa.activityNeed
open Go.ChangeShapes Go.WideShapes Go.ChangeAt Go.RowKit
open Go.ChangeMaps (open_string shut_string)
set_option linter.unusedVariables false

/-- The plain law: what is needed is enough; one less is not. -/
theorem need_law (P U : Int) (hP : 0 ≤ P ∧ P ≤ 1073741823) (hU : 1 ≤ U ∧ U ≤ 10000) :
    ∃ K, needV P U = K ∧ 0 ≤ K ∧ K ≤ P ∧ nextR P 0 K U false = (P, 0, 0) ∧ (K = 0 → P = 0) ∧ (K ≠ 0 → ∃ X, nextR P 0 (K - 1) U false = (X, 0, 0) ∧ X < P) := by
  have hr : rightB P U = true := right_mk (by omega)
  have hb := need_bd P U hr
  refine ⟨needV P U, rfl, hb.1, hb.2, ?_, ?_, ?_⟩
  · have hl : ¬ lazyB (needV P U) P U = true := fun h => by
      have h1 := (lazy_iff _ P U hr).1 h
      have h2 := (need_iff P U (needV P U) hr).1 (Int.le_refl _)
      omega
    unfold nextR
    rw [if_pos ⟨check_mk (by omega), right_mk (by omega)⟩, if_neg (by simp), if_neg hl]
  · intro h
    have h2 := (need_iff P U 0 hr).1 (by omega)
    have h3 : P * 1 ≤ P * U := Int.mul_le_mul_of_nonneg_left (by omega) (by omega)
    omega
  · intro h
    have hr2 : rightB (needV P U - 1) U = true := right_mk (by omega)
    have h1 : (needV P U - 1) * 10000 < P * U := Int.not_le.1 fun h1 => by
      have := (need_iff P U (needV P U - 1) hr).2 h1
      omega
    have hl : lazyB (needV P U - 1) P U = true := (lazy_iff _ P U hr).2 h1
    have hk : keepV (needV P U - 1) U < P := by
      have h3 : (needV P U - 1) * 10000 / U < P := Int.ediv_lt_of_lt_mul (by omega) h1
      unfold keepV
      rw [if_pos hr2]
      split <;> omega
    refine ⟨keepV (needV P U - 1) U, ?_, hk⟩
    unfold nextR
    rw [if_pos ⟨check_mk (by omega), hr2⟩, if_neg (by simp), if_pos hl, if_neg (by omega), if_pos hk]

set_option maxRecDepth 100000 in
set_option maxHeartbeats 8000000 in
theorem walk (p a u t : Int) (w : World) (hp : (Lit.int .i64 p).wf = true) (ha : (Lit.int .i64 a).wf = true) (hu : (Lit.int .i64 u).wf = true) (ht : (Lit.int .i64 t).wf = true) :
    Calls Try.prog 5 #[.agg #[.int .i64 p, .int .i64 a, .int .i64 u, .int .i64 t]] w fun e w' => e = .returned (.bool true) ∧ Below w.heap.size w w' := by
  obtain ⟨u0, u1⟩ := bd_i64 _ hu
  have bP := ptsZ_bd p
  have bA := ptsZ_bd a
  have bT := waitZ_bd t
  have bU := useZ_bd u
  obtain ⟨P, hP'⟩ : ∃ P, P = ptsZ p := ⟨_, rfl⟩
  obtain ⟨T, hT'⟩ : ∃ T, T = waitZ t := ⟨_, rfl⟩
  obtain ⟨A, hA'⟩ : ∃ A, A = ptsZ a := ⟨_, rfl⟩
  obtain ⟨U, hU'⟩ : ∃ U, U = useZ u := ⟨_, rfl⟩
  rw [← hP'] at bP
  rw [← hT'] at bT
  rw [← hA'] at bA
  rw [← hU'] at bU
  have hP := Lib.hid hP'.symm
  have hT := Lib.hid hT'.symm
  have hA := Lib.hid hA'.symm
  have hU := Lib.hid hU'.symm
  clear hP' hT' hA' hU' hp ha hu ht
  obtain ⟨K, k', k0, k1, r1', k2, k3⟩ := need_law P U bP bU
  have hK := Lib.hid k'
  have r1 := Lib.hid r1'
  have K2 := Lib.hid k2
  have K3 := Lib.hid k3
  have e0 : ¬ K < 0 := by omega
  have e1 : ¬ P < K := by omega
  clear k' r1' k2 k3
  go_enter Try.func5, Try.ntmps5
  go_wp2_with fail
  refine (awake_any _).mono ?_; rintro e w1 ⟨rfl, hb1⟩
  have B1 := below_step ((Below.refl _ _).alloc (Nat.le_refl _) _) hb1
  have N1 := (At.new w 23 #[.int .i64 p, .int .i64 a, .int .i64 u, .int .i64 t]).below hb1 (by simp)
  clear hb1
  have n0 := N1.cell 0
  have n1 := N1.cell 1
  have n2 := N1.cell 2
  have n3 := N1.cell 3
  go_wp2_with fail
  clear n0 n1 n2 n3
  refine (part_any p a u t _).mono ?_; rintro e w2 ⟨rfl, hb2⟩
  rw [hP.out, hT.out]
  have B2 := below_step B1 hb2
  have N2 := N1.below hb2 N1.lt
  clear N1 B1 hb2
  go_upto_region 4 with fail
  obtain ⟨W3, hW3⟩ : ∃ W3, W3 = w2.alloc (.cells #[.int .i64 P, .int .i64 0] 26) := ⟨_, rfl⟩
  rw [← hW3]
  have B3 : Below w.heap.size w W3 := by rw [hW3]; exact B2.alloc B2.size _
  have N3 : At W3 w.heap.size 23 #[.int .i64 p, .int .i64 a, .int .i64 u, .int .i64 t] := by rw [hW3]; exact N2.alloc _
  have S3 : At W3 w2.heap.size 26 #[.int .i64 P, .int .i64 0] := by rw [hW3]; exact At.new _ _ _
  have l0 := N2.lt
  have l3 := S3.lt
  clear hW3 B2 N2
  go_cut [5] (fun s5 wx => s5 = .int .i64 K ∧ At wx w.heap.size 23 #[.int .i64 p, .int .i64 a, .int .i64 u, .int .i64 t] ∧ At wx w2.heap.size 26 #[.int .i64 P, .int .i64 0] ∧ Below w.heap.size w wx)
  case first =>
    have m0 := N3.lt
    have m1 := S3.lt
    have c00 := N3.cell 0
    have c01 := N3.cell 1
    have c02 := N3.cell 2
    have c03 := N3.cell 3
    have c10 := S3.cell 0
    have c11 := S3.cell 1
    go_region_held3 (fun w' => w'.cell? ⟨w.heap.size, 0, none⟩ = some (.int .i64 p) ∧ w'.cell? ⟨w.heap.size, 1, none⟩ = some (.int .i64 a) ∧ w'.cell? ⟨w.heap.size, 2, none⟩ = some (.int .i64 u) ∧ w'.cell? ⟨w.heap.size, 3, none⟩ = some (.int .i64 t) ∧ w'.cell? ⟨w2.heap.size, 0, none⟩ = some (.int .i64 P) ∧ w'.cell? ⟨w2.heap.size, 1, none⟩ = some (.int .i64 0))
      (first | exact ⟨c00, c01, c02, c03, c10, c11⟩ | exact ⟨At.cell (t := 23) (cs := #[.int .i64 p, .int .i64 a, .int .i64 u, .int .i64 t]) (by repeat (first | with_reducible assumption | with_reducible exact At.new _ _ _ | with_reducible refine At.drew ?_ | with_reducible refine At.alloc ?_ _ | (with_reducible refine At.far ?_ ?_ _; rotate_left; ((try have q4 := hb4.size); (try have q5 := hb5.size); (try have q6 := hb6.size); (try simp at q4); (try simp at q5); (try simp at q6); simp; omega)) | (with_reducible refine At.step ?_ (by with_reducible assumption)))) 0, At.cell (t := 23) (cs := #[.int .i64 p, .int .i64 a, .int .i64 u, .int .i64 t]) (by repeat (first | with_reducible assumption | with_reducible exact At.new _ _ _ | with_reducible refine At.drew ?_ | with_reducible refine At.alloc ?_ _ | (with_reducible refine At.far ?_ ?_ _; rotate_left; ((try have q4 := hb4.size); (try have q5 := hb5.size); (try have q6 := hb6.size); (try simp at q4); (try simp at q5); (try simp at q6); simp; omega)) | (with_reducible refine At.step ?_ (by with_reducible assumption)))) 1, At.cell (t := 23) (cs := #[.int .i64 p, .int .i64 a, .int .i64 u, .int .i64 t]) (by repeat (first | with_reducible assumption | with_reducible exact At.new _ _ _ | with_reducible refine At.drew ?_ | with_reducible refine At.alloc ?_ _ | (with_reducible refine At.far ?_ ?_ _; rotate_left; ((try have q4 := hb4.size); (try have q5 := hb5.size); (try have q6 := hb6.size); (try simp at q4); (try simp at q5); (try simp at q6); simp; omega)) | (with_reducible refine At.step ?_ (by with_reducible assumption)))) 2, At.cell (t := 23) (cs := #[.int .i64 p, .int .i64 a, .int .i64 u, .int .i64 t]) (by repeat (first | with_reducible assumption | with_reducible exact At.new _ _ _ | with_reducible refine At.drew ?_ | with_reducible refine At.alloc ?_ _ | (with_reducible refine At.far ?_ ?_ _; rotate_left; ((try have q4 := hb4.size); (try have q5 := hb5.size); (try have q6 := hb6.size); (try simp at q4); (try simp at q5); (try simp at q6); simp; omega)) | (with_reducible refine At.step ?_ (by with_reducible assumption)))) 3, At.cell (t := 26) (cs := #[.int .i64 P, .int .i64 0]) (by repeat (first | with_reducible assumption | with_reducible exact At.new _ _ _ | with_reducible refine At.drew ?_ | with_reducible refine At.alloc ?_ _ | (with_reducible refine At.far ?_ ?_ _; rotate_left; ((try have q4 := hb4.size); (try have q5 := hb5.size); (try have q6 := hb6.size); (try simp at q4); (try simp at q5); (try simp at q6); simp; omega)) | (with_reducible refine At.step ?_ (by with_reducible assumption)))) 0, At.cell (t := 26) (cs := #[.int .i64 P, .int .i64 0]) (by repeat (first | with_reducible assumption | with_reducible exact At.new _ _ _ | with_reducible refine At.drew ?_ | with_reducible refine At.alloc ?_ _ | (with_reducible refine At.far ?_ ?_ _; rotate_left; ((try have q4 := hb4.size); (try have q5 := hb5.size); (try have q6 := hb6.size); (try simp at q4); (try simp at q5); (try simp at q6); simp; omega)) | (with_reducible refine At.step ?_ (by with_reducible assumption)))) 1⟩)
      (first
        | (go_at_call 13; refine (use_any p a u t _ u0 u1).mono ?_; rintro e w4 ⟨rfl, hb4⟩; rw [hU.out])
        | (go_at_call 14; refine (need_any P U _).mono ?_; rintro e w5 ⟨rfl, hb5⟩; rw [hK.out]))
    all_goals
      go_wp2_with fail
      go_meet
      refine ⟨rfl, ?_, ?_, ?_⟩
      · (repeat (first | with_reducible assumption | with_reducible exact At.new _ _ _ | with_reducible refine At.drew ?_ | with_reducible refine At.alloc ?_ _ | (with_reducible refine At.far ?_ ?_ _; rotate_left; ((try have q4 := hb4.size); (try have q5 := hb5.size); (try have q6 := hb6.size); (try simp at q4); (try simp at q5); (try simp at q6); simp; omega)) | (with_reducible refine At.step ?_ (by with_reducible assumption))))
      · (repeat (first | with_reducible assumption | with_reducible exact At.new _ _ _ | with_reducible refine At.drew ?_ | with_reducible refine At.alloc ?_ _ | (with_reducible refine At.far ?_ ?_ _; rotate_left; ((try have q4 := hb4.size); (try have q5 := hb5.size); (try have q6 := hb6.size); (try simp at q4); (try simp at q5); (try simp at q6); simp; omega)) | (with_reducible refine At.step ?_ (by with_reducible assumption))))
      · (repeat (first | with_reducible assumption | with_reducible refine Below.drew ?_ | (with_reducible refine Below.alloc ?_ ?_ _; rotate_left; ((try have q4 := hb4.size); (try have q5 := hb5.size); (try have q6 := hb6.size); (try simp at q4); (try simp at q5); (try simp at q6); simp; omega)) | (with_reducible refine Below.setCell ?_ ?_ _; rotate_left; ((try have q4 := hb4.size); (try have q5 := hb5.size); (try have q6 := hb6.size); (try simp at q4); (try simp at q5); (try simp at q6); simp; omega)) | (with_reducible refine below_step ?_ (by with_reducible assumption))))
  case rest =>
    obtain ⟨rfl, N5, S5, B5⟩ := hcut
    go_wp2_with fail
    go_cut [6, 7] (fun s6 s7 wx => ∃ b6 : Nat, s6 = .pointer (some ⟨b6, 0, none⟩) ∧ s7 = .int .i64 0 ∧ w2.heap.size < b6 ∧ At wx w.heap.size 23 #[.int .i64 p, .int .i64 a, .int .i64 u, .int .i64 t] ∧ At wx w2.heap.size 26 #[.int .i64 P, .int .i64 0] ∧ At wx b6 26 #[.int .i64 P, .int .i64 0] ∧ Below w.heap.size w wx)
    case first =>
      have m0 := N5.lt
      have m1 := S5.lt
      have c00 := N5.cell 0
      have c01 := N5.cell 1
      have c02 := N5.cell 2
      have c03 := N5.cell 3
      have c10 := S5.cell 0
      have c11 := S5.cell 1
      go_region_held3 (fun w' => w'.cell? ⟨w.heap.size, 0, none⟩ = some (.int .i64 p) ∧ w'.cell? ⟨w.heap.size, 1, none⟩ = some (.int .i64 a) ∧ w'.cell? ⟨w.heap.size, 2, none⟩ = some (.int .i64 u) ∧ w'.cell? ⟨w.heap.size, 3, none⟩ = some (.int .i64 t) ∧ w'.cell? ⟨w2.heap.size, 0, none⟩ = some (.int .i64 P) ∧ w'.cell? ⟨w2.heap.size, 1, none⟩ = some (.int .i64 0))
        (first | exact ⟨c00, c01, c02, c03, c10, c11⟩ | exact ⟨At.cell (t := 23) (cs := #[.int .i64 p, .int .i64 a, .int .i64 u, .int .i64 t]) (by repeat (first | with_reducible assumption | with_reducible exact At.new _ _ _ | with_reducible refine At.drew ?_ | with_reducible refine At.alloc ?_ _ | (with_reducible refine At.far ?_ ?_ _; rotate_left; ((try have q4 := hb4.size); (try have q5 := hb5.size); (try have q6 := hb6.size); (try simp at q4); (try simp at q5); (try simp at q6); simp; omega)) | (with_reducible refine At.step ?_ (by with_reducible assumption)))) 0, At.cell (t := 23) (cs := #[.int .i64 p, .int .i64 a, .int .i64 u, .int .i64 t]) (by repeat (first | with_reducible assumption | with_reducible exact At.new _ _ _ | with_reducible refine At.drew ?_ | with_reducible refine At.alloc ?_ _ | (with_reducible refine At.far ?_ ?_ _; rotate_left; ((try have q4 := hb4.size); (try have q5 := hb5.size); (try have q6 := hb6.size); (try simp at q4); (try simp at q5); (try simp at q6); simp; omega)) | (with_reducible refine At.step ?_ (by with_reducible assumption)))) 1, At.cell (t := 23) (cs := #[.int .i64 p, .int .i64 a, .int .i64 u, .int .i64 t]) (by repeat (first | with_reducible assumption | with_reducible exact At.new _ _ _ | with_reducible refine At.drew ?_ | with_reducible refine At.alloc ?_ _ | (with_reducible refine At.far ?_ ?_ _; rotate_left; ((try have q4 := hb4.size); (try have q5 := hb5.size); (try have q6 := hb6.size); (try simp at q4); (try simp at q5); (try simp at q6); simp; omega)) | (with_reducible refine At.step ?_ (by with_reducible assumption)))) 2, At.cell (t := 23) (cs := #[.int .i64 p, .int .i64 a, .int .i64 u, .int .i64 t]) (by repeat (first | with_reducible assumption | with_reducible exact At.new _ _ _ | with_reducible refine At.drew ?_ | with_reducible refine At.alloc ?_ _ | (with_reducible refine At.far ?_ ?_ _; rotate_left; ((try have q4 := hb4.size); (try have q5 := hb5.size); (try have q6 := hb6.size); (try simp at q4); (try simp at q5); (try simp at q6); simp; omega)) | (with_reducible refine At.step ?_ (by with_reducible assumption)))) 3, At.cell (t := 26) (cs := #[.int .i64 P, .int .i64 0]) (by repeat (first | with_reducible assumption | with_reducible exact At.new _ _ _ | with_reducible refine At.drew ?_ | with_reducible refine At.alloc ?_ _ | (with_reducible refine At.far ?_ ?_ _; rotate_left; ((try have q4 := hb4.size); (try have q5 := hb5.size); (try have q6 := hb6.size); (try simp at q4); (try simp at q5); (try simp at q6); simp; omega)) | (with_reducible refine At.step ?_ (by with_reducible assumption)))) 0, At.cell (t := 26) (cs := #[.int .i64 P, .int .i64 0]) (by repeat (first | with_reducible assumption | with_reducible exact At.new _ _ _ | with_reducible refine At.drew ?_ | with_reducible refine At.alloc ?_ _ | (with_reducible refine At.far ?_ ?_ _; rotate_left; ((try have q4 := hb4.size); (try have q5 := hb5.size); (try have q6 := hb6.size); (try simp at q4); (try simp at q5); (try simp at q6); simp; omega)) | (with_reducible refine At.step ?_ (by with_reducible assumption)))) 1⟩)
        (first
          | (go_at_call 13; refine (use_any p a u t _ u0 u1).mono ?_; rintro e w4 ⟨rfl, hb4⟩; rw [hU.out]; (first | with_reducible have R4 := At.step (At.new _ 26 #[.int .i64 0, .int .i64 0]) hb4 | with_reducible have R4 := At.step (At.drew (At.new _ 26 #[.int .i64 0, .int .i64 0])) hb4 | skip))
          | (go_at_call 11; refine (next_any _ _ _ _ _ _).mono ?_; rintro e w5 ⟨rfl, hb5⟩; rw [r1.out]; (first | have R5 := R4.step hb5 | with_reducible have R5 := At.step (At.new _ 26 #[.int .i64 0, .int .i64 0]) hb5 | with_reducible have R5 := At.step (At.drew (At.new _ 26 #[.int .i64 0, .int .i64 0])) hb5 | skip); (first | (have rr0 := R5.cell 0; have rr1 := R5.cell 1; have rf0 := R5.free 0; have rf1 := R5.free 1; try simp only [World.size_drew] at rr0 rr1 rf0 rf1) | skip)))
      all_goals
        go_wp2_with fail
        go_meet
        refine ⟨_, rfl, rfl, ?_, ?_, ?_, ?_, ?_⟩
        · ((try have q4 := hb4.size); (try have q5 := hb5.size); (try have q6 := hb6.size); (try simp at q4); (try simp at q5); (try simp at q6); simp; omega)
        · (repeat (first | with_reducible assumption | with_reducible exact At.new _ _ _ | with_reducible refine At.drew ?_ | with_reducible refine At.alloc ?_ _ | (with_reducible refine At.far ?_ ?_ _; rotate_left; ((try have q4 := hb4.size); (try have q5 := hb5.size); (try have q6 := hb6.size); (try simp at q4); (try simp at q5); (try simp at q6); simp; omega)) | (with_reducible refine At.step ?_ (by with_reducible assumption))))
        · (repeat (first | with_reducible assumption | with_reducible exact At.new _ _ _ | with_reducible refine At.drew ?_ | with_reducible refine At.alloc ?_ _ | (with_reducible refine At.far ?_ ?_ _; rotate_left; ((try have q4 := hb4.size); (try have q5 := hb5.size); (try have q6 := hb6.size); (try simp at q4); (try simp at q5); (try simp at q6); simp; omega)) | (with_reducible refine At.step ?_ (by with_reducible assumption))))
        · first | exact At.put2 (by repeat (first | with_reducible assumption | with_reducible exact At.new _ _ _ | with_reducible refine At.drew ?_ | with_reducible refine At.alloc ?_ _ | (with_reducible refine At.far ?_ ?_ _; rotate_left; ((try have q4 := hb4.size); (try have q5 := hb5.size); (try have q6 := hb6.size); (try simp at q4); (try simp at q5); (try simp at q6); simp; omega)) | (with_reducible refine At.step ?_ (by with_reducible assumption)))) | (with_reducible exact At.new _ _ _)
        · (repeat (first | with_reducible assumption | with_reducible refine Below.drew ?_ | (with_reducible refine Below.alloc ?_ ?_ _; rotate_left; ((try have q4 := hb4.size); (try have q5 := hb5.size); (try have q6 := hb6.size); (try simp at q4); (try simp at q5); (try simp at q6); simp; omega)) | (with_reducible refine Below.setCell ?_ ?_ _; rotate_left; ((try have q4 := hb4.size); (try have q5 := hb5.size); (try have q6 := hb6.size); (try simp at q4); (try simp at q5); (try simp at q6); simp; omega)) | (with_reducible refine below_step ?_ (by with_reducible assumption))))
    case rest =>
      obtain ⟨b6, rfl, rfl, l6, N6, S6, R6, B6⟩ := hcut
      have s0 := S6.cell 0
      have s1 := S6.cell 1
      have q0 := R6.cell 0
      have q1 := R6.cell 1
      by_cases hk : K = 0
      · have hz : (K == 0) = true := by rw [hk]; rfl
        have hp0 : (P == 0) = true := by rw [K2.out hk]; rfl
        clear hk
        go_wp2_with fail
        go_ret
        exact ⟨rfl, B6⟩
      · have hz : (K == 0) = false := beq_eq_false_iff_ne.2 hk
        obtain ⟨X, r2', hX⟩ := K3.out hk
        have r2 := Lib.hid r2'
        have HW := Lib.hid (show IntKind.i64.wrap (K - 1) = K - 1 from IntWalk.i64_in _ ⟨by omega, by omega⟩)
        clear r2' hk
        go_upto_region 10 with fail
        clear s0 s1 q0 q1
        go_cut [8, 9] (fun s8 s9 wx => ∃ b8 : Nat, s8 = .pointer (some ⟨b8, 0, none⟩) ∧ s9 = .int .i64 0 ∧ w2.heap.size < b8 ∧ At wx w.heap.size 23 #[.int .i64 p, .int .i64 a, .int .i64 u, .int .i64 t] ∧ At wx w2.heap.size 26 #[.int .i64 P, .int .i64 0] ∧ At wx b8 26 #[.int .i64 X, .int .i64 0] ∧ Below w.heap.size w wx)
        case first =>
          have m0 := N6.lt
          have m1 := S6.lt
          have c00 := N6.cell 0
          have c01 := N6.cell 1
          have c02 := N6.cell 2
          have c03 := N6.cell 3
          have c10 := S6.cell 0
          have c11 := S6.cell 1
          go_region_held3 (fun w' => w'.cell? ⟨w.heap.size, 0, none⟩ = some (.int .i64 p) ∧ w'.cell? ⟨w.heap.size, 1, none⟩ = some (.int .i64 a) ∧ w'.cell? ⟨w.heap.size, 2, none⟩ = some (.int .i64 u) ∧ w'.cell? ⟨w.heap.size, 3, none⟩ = some (.int .i64 t) ∧ w'.cell? ⟨w2.heap.size, 0, none⟩ = some (.int .i64 P) ∧ w'.cell? ⟨w2.heap.size, 1, none⟩ = some (.int .i64 0))
            (first | exact ⟨c00, c01, c02, c03, c10, c11⟩ | exact ⟨At.cell (t := 23) (cs := #[.int .i64 p, .int .i64 a, .int .i64 u, .int .i64 t]) (by repeat (first | with_reducible assumption | with_reducible exact At.new _ _ _ | with_reducible refine At.drew ?_ | with_reducible refine At.alloc ?_ _ | (with_reducible refine At.far ?_ ?_ _; rotate_left; ((try have q4 := hb4.size); (try have q5 := hb5.size); (try have q6 := hb6.size); (try simp at q4); (try simp at q5); (try simp at q6); simp; omega)) | (with_reducible refine At.step ?_ (by with_reducible assumption)))) 0, At.cell (t := 23) (cs := #[.int .i64 p, .int .i64 a, .int .i64 u, .int .i64 t]) (by repeat (first | with_reducible assumption | with_reducible exact At.new _ _ _ | with_reducible refine At.drew ?_ | with_reducible refine At.alloc ?_ _ | (with_reducible refine At.far ?_ ?_ _; rotate_left; ((try have q4 := hb4.size); (try have q5 := hb5.size); (try have q6 := hb6.size); (try simp at q4); (try simp at q5); (try simp at q6); simp; omega)) | (with_reducible refine At.step ?_ (by with_reducible assumption)))) 1, At.cell (t := 23) (cs := #[.int .i64 p, .int .i64 a, .int .i64 u, .int .i64 t]) (by repeat (first | with_reducible assumption | with_reducible exact At.new _ _ _ | with_reducible refine At.drew ?_ | with_reducible refine At.alloc ?_ _ | (with_reducible refine At.far ?_ ?_ _; rotate_left; ((try have q4 := hb4.size); (try have q5 := hb5.size); (try have q6 := hb6.size); (try simp at q4); (try simp at q5); (try simp at q6); simp; omega)) | (with_reducible refine At.step ?_ (by with_reducible assumption)))) 2, At.cell (t := 23) (cs := #[.int .i64 p, .int .i64 a, .int .i64 u, .int .i64 t]) (by repeat (first | with_reducible assumption | with_reducible exact At.new _ _ _ | with_reducible refine At.drew ?_ | with_reducible refine At.alloc ?_ _ | (with_reducible refine At.far ?_ ?_ _; rotate_left; ((try have q4 := hb4.size); (try have q5 := hb5.size); (try have q6 := hb6.size); (try simp at q4); (try simp at q5); (try simp at q6); simp; omega)) | (with_reducible refine At.step ?_ (by with_reducible assumption)))) 3, At.cell (t := 26) (cs := #[.int .i64 P, .int .i64 0]) (by repeat (first | with_reducible assumption | with_reducible exact At.new _ _ _ | with_reducible refine At.drew ?_ | with_reducible refine At.alloc ?_ _ | (with_reducible refine At.far ?_ ?_ _; rotate_left; ((try have q4 := hb4.size); (try have q5 := hb5.size); (try have q6 := hb6.size); (try simp at q4); (try simp at q5); (try simp at q6); simp; omega)) | (with_reducible refine At.step ?_ (by with_reducible assumption)))) 0, At.cell (t := 26) (cs := #[.int .i64 P, .int .i64 0]) (by repeat (first | with_reducible assumption | with_reducible exact At.new _ _ _ | with_reducible refine At.drew ?_ | with_reducible refine At.alloc ?_ _ | (with_reducible refine At.far ?_ ?_ _; rotate_left; ((try have q4 := hb4.size); (try have q5 := hb5.size); (try have q6 := hb6.size); (try simp at q4); (try simp at q5); (try simp at q6); simp; omega)) | (with_reducible refine At.step ?_ (by with_reducible assumption)))) 1⟩)
            (first
              | (go_at_call 13; refine (use_any p a u t _ u0 u1).mono ?_; rintro e w4 ⟨rfl, hb4⟩; rw [hU.out]; (first | with_reducible have R4 := At.step (At.new _ 26 #[.int .i64 0, .int .i64 0]) hb4 | with_reducible have R4 := At.step (At.drew (At.new _ 26 #[.int .i64 0, .int .i64 0])) hb4 | skip))
              | (go_at_call 11; refine (next_any _ _ _ _ _ _).mono ?_; rintro e w5 ⟨rfl, hb5⟩; rw [HW.out, r2.out]; (first | have R5 := R4.step hb5 | with_reducible have R5 := At.step (At.new _ 26 #[.int .i64 0, .int .i64 0]) hb5 | with_reducible have R5 := At.step (At.drew (At.new _ 26 #[.int .i64 0, .int .i64 0])) hb5 | skip); (first | (have rr0 := R5.cell 0; have rr1 := R5.cell 1; have rf0 := R5.free 0; have rf1 := R5.free 1; try simp only [World.size_drew] at rr0 rr1 rf0 rf1) | skip)))
          all_goals
            go_wp2_with fail
            go_meet
            refine ⟨_, rfl, rfl, ?_, ?_, ?_, ?_, ?_⟩
            · ((try have q4 := hb4.size); (try have q5 := hb5.size); (try have q6 := hb6.size); (try simp at q4); (try simp at q5); (try simp at q6); simp; omega)
            · (repeat (first | with_reducible assumption | with_reducible exact At.new _ _ _ | with_reducible refine At.drew ?_ | with_reducible refine At.alloc ?_ _ | (with_reducible refine At.far ?_ ?_ _; rotate_left; ((try have q4 := hb4.size); (try have q5 := hb5.size); (try have q6 := hb6.size); (try simp at q4); (try simp at q5); (try simp at q6); simp; omega)) | (with_reducible refine At.step ?_ (by with_reducible assumption))))
            · (repeat (first | with_reducible assumption | with_reducible exact At.new _ _ _ | with_reducible refine At.drew ?_ | with_reducible refine At.alloc ?_ _ | (with_reducible refine At.far ?_ ?_ _; rotate_left; ((try have q4 := hb4.size); (try have q5 := hb5.size); (try have q6 := hb6.size); (try simp at q4); (try simp at q5); (try simp at q6); simp; omega)) | (with_reducible refine At.step ?_ (by with_reducible assumption))))
            · first | exact At.put2 (by repeat (first | with_reducible assumption | with_reducible exact At.new _ _ _ | with_reducible refine At.drew ?_ | with_reducible refine At.alloc ?_ _ | (with_reducible refine At.far ?_ ?_ _; rotate_left; ((try have q4 := hb4.size); (try have q5 := hb5.size); (try have q6 := hb6.size); (try simp at q4); (try simp at q5); (try simp at q6); simp; omega)) | (with_reducible refine At.step ?_ (by with_reducible assumption)))) | (with_reducible exact At.new _ _ _)
            · (repeat (first | with_reducible assumption | with_reducible refine Below.drew ?_ | (with_reducible refine Below.alloc ?_ ?_ _; rotate_left; ((try have q4 := hb4.size); (try have q5 := hb5.size); (try have q6 := hb6.size); (try simp at q4); (try simp at q5); (try simp at q6); simp; omega)) | (with_reducible refine Below.setCell ?_ ?_ _; rotate_left; ((try have q4 := hb4.size); (try have q5 := hb5.size); (try have q6 := hb6.size); (try simp at q4); (try simp at q5); (try simp at q6); simp; omega)) | (with_reducible refine below_step ?_ (by with_reducible assumption))))
        case rest =>
          obtain ⟨b8, rfl, rfl, l8, N8, S8, R8, B8⟩ := hcut
          have s0 := S8.cell 0
          have s1 := S8.cell 1
          have q0 := R8.cell 0
          have q1 := R8.cell 1
          go_wp2_with fail
          go_ret
          exact ⟨rfl, B8⟩

theorem own : ownKnob Try.prog.godebug = none := by kernel_rfl
theorem laidOut : laidOutB Try.prog = true := by kernel_rfl

set_option maxRecDepth 100000 in
theorem lifted (os : Os) (started : os.Started) (H : Type) (enc : TypeId × Value → H) :
    ReturnsInHanded {} Try.checked os 5 .any (Rows.activityNeedSpec.pre6 enc Try.prog Try.f5 Rows.activityNeedRow.domain false) (Rows.activityNeedSpec.post enc Try.prog Try.f5 false true false false) := by
  refine returnsInHanded_of_change (C := Try.checked) own started (by kernel_rfl) Try.func5
    (ChangeSpec.witness6 (enc := enc) (C := Try.checked) false ⟨#[], #[.agg #[.int .i64 0, .int .i64 0, .int .i64 0, .int .i64 0]], []⟩ 8 (by kernel_rfl) (by kernel_rfl) (by kernel_rfl) (by kernel_rfl)) ?_
  intro W base args ds gs before hval0 hW hcnd hsz
  have hval : ∀ (j : Nat) t v, Try.f5.params[j]? = some t → args[j]? = some v → Value.okWide Try.prog W .any base t v := hval0
  have hW' := hW
  obtain ⟨p, q, hA0, hV, rfl, hfz, hnd⟩ := hW
  have hA : DataW.TrodAll enc Try.prog W 0 (fun _ => true) true Try.f5.params.toList args.toList ds p := hA0
  rw [Try.params5] at hA hval
  obtain ⟨v0, vs0, d0, ds0, p0, q0, hargs, rfl, rfl, h0, r0⟩ := trodAll_cons hA
  obtain ⟨rfl, rfl, rfl⟩ := trodAll_nil r0
  obtain rfl : args = #[v0] := by cases args; simp_all
  obtain ⟨rfl, rfl⟩ := trodVars_none hV
  obtain ⟨p, a, u, t, rfl, hp, ha, hu, ht⟩ := open_num Try.underlying23 (by kernel_rfl) (by kernel_rfl) rfl rfl rfl rfl Try.underlying2 Try.underlying3 (hval 0 23 v0 rfl rfl) h0
  refine (walk p a u t W hp ha hu ht).mono fun e W' ⟨he, hg⟩ => ?_
  subst he
  exact ⟨_, rfl, post_law laidOut (by kernel_rfl) rfl Try.underlying4 hW' rfl rfl hg⟩

theorem over : Rows.activityNeedRow.holds Try.pinned (OpenSpec.ofChange Rows.activityNeedSpec) :=
  OpenClaim.holds_of_wide 5 Try.f5 rfl rfl rfl rfl rfl rfl rfl ⟨rfl, rfl, rfl, rfl, rfl⟩ rfl rfl rfl rfl rfl (by kernel_rfl) Try.func5 (by kernel_rfl)
    (of_decide_eq_true (by kernel_rfl)) (by unfold Func.isWrapper; first | (rw [if_pos (by decide +kernel)]; kernel_rfl) | (rw [if_neg (by decide +kernel)]; exact ⟨rfl, rfl⟩))
    (fun os started H enc _ => lifted os started H enc)

/-- THE STATEMENT. -/
theorem proved : Rows.ActivityNeedSaid := over
#print axioms proved
end Go.Proofs.Ytidhleeoeapjmaa.activityNeed
