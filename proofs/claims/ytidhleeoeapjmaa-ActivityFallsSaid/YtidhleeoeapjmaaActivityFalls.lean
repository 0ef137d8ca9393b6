/- 'vendue/venduelaw17.ActivityFalls' answers true at every input, and leaves its arguments as they were: the given statement Rows.ActivityFallsSaid. No condition. -/
import Derived.Test.YtidhleeoeapjmaaRows
import Derived.Test.YtidhleeoeapjmaaMem
import Derived.WalkKit
import Derived.ProofKit
import Derived.OpenShut
import Derived.Deep.RegionHeld3
import Derived.Deep.DeepCutAuto
import Derived.Test.YtidhleeoeapjmaaActLaw
import Derived.Test.YtidhleeoeapjmaaOpen
namespace Go.Proofs.Ytidhleeoeapjmaa.activityFalls
open Go.ChangeShapes Go.WideShapes Go.ChangeAt Go.RowKit
open Go.ChangeMaps (open_string shut_string)
set_option linter.unusedVariables false

set_option maxRecDepth 100000 in
set_option maxHeartbeats 8000000 in
theorem walk (p a u t : Int) (a1 : Bool) (w : World) (hp : (Lit.int .i64 p).wf = true) (ha : (Lit.int .i64 a).wf = true) (hu : (Lit.int .i64 u).wf = true) (ht : (Lit.int .i64 t).wf = true) :
    Calls Try.prog 3 #[.agg #[.int .i64 p, .int .i64 a, .int .i64 u, .int .i64 t], .bool a1] w fun e w' => e = .returned (.bool true) ∧ Below w.heap.size w w' := by
  obtain ⟨u0, u1⟩ := bd_i64 _ hu
  have bP := ptsZ_bd p
  have bA := ptsZ_bd a
  have bT := waitZ_bd t
  have bU := useZ_bd u
  obtain ⟨P, hP'⟩ : ∃ P, P = ptsZ p := ⟨_, rfl⟩
  obtain ⟨T, hT'⟩ : ∃ T, T = waitZ t := ⟨_, rfl⟩
  obtain ⟨A, hA'⟩ : ∃ A, A = ptsZ a := ⟨_, rfl⟩
  obtain ⟨U, hU'⟩ : ∃ U, U = useZ u := ⟨_, rfl⟩
  rw [← hP'] at bP
  rw [← hT'] at bT
  rw [← hA'] at bA
  rw [← hU'] at bU
  have hP := Lib.hid hP'.symm
  have hT := Lib.hid hT'.symm
  have hA := Lib.hid hA'.symm
  have hU := Lib.hid hU'.symm
  clear hP' hT' hA' hU' hp ha hu ht
  rcases falls_cases P T A U a1 bP bT bA bU with ⟨rfl, hz, hR'⟩ | ⟨rfl, hz, hR'⟩ | ⟨rfl, hR', hne⟩ | ⟨rfl, q, hq, hR', hne⟩ | ⟨rfl, hR'⟩
  · have hR := Lib.hid hR'
    have hz' : (T == 0) = true := by rw [hz]; rfl
    clear hz
    clear hR'
    go_enter Try.func3, Try.ntmps3
    go_wp2_with fail
    refine (awake_any _).mono ?_; rintro e w1 ⟨rfl, hb1⟩
    have B1 := below_step ((Below.refl _ _).alloc (Nat.le_refl _) _) hb1
    have N1 := (At.new w 23 #[.int .i64 p, .int .i64 a, .int .i64 u, .int .i64 t]).below hb1 (by simp)
    clear hb1
    have n0 := N1.cell 0
    have n1 := N1.cell 1
    have n2 := N1.cell 2
    have n3 := N1.cell 3
    go_wp2_with fail
    clear n0 n1 n2 n3
    refine (part_any p a u t _).mono ?_; rintro e w2 ⟨rfl, hb2⟩
    rw [hP.out, hT.out]
    have B2 := below_step B1 hb2
    have N2 := N1.below hb2 N1.lt
    clear N1 B1 hb2
    go_wp2_with fail
    obtain ⟨W3, hW3⟩ : ∃ W3, W3 = w2.alloc (.cells #[.int .i64 P, .int .i64 T] 26) := ⟨_, rfl⟩
    go_upto_region 3 with fail
    rw [← hW3]
    have B3 : Below w.heap.size w W3 := by rw [hW3]; exact B2.alloc B2.size _
    have N3 : At W3 w.heap.size 23 #[.int .i64 p, .int .i64 a, .int .i64 u, .int .i64 t] := by rw [hW3]; exact N2.alloc _
    have S3 : At W3 w2.heap.size 26 #[.int .i64 P, .int .i64 T] := by rw [hW3]; exact At.new _ _ _
    have l0 := N2.lt
    have l3 := S3.lt
    clear hW3 B2 N2
    go_cut [7, 8] (fun s7 s8 wx => ∃ b7 : Nat, s7 = .pointer (some ⟨b7, 0, none⟩) ∧ s8 = .int .i64 (22) ∧ w.heap.size < w2.heap.size ∧ w2.heap.size < b7 ∧ At wx w.heap.size 23 #[.int .i64 p, .int .i64 a, .int .i64 u, .int .i64 t] ∧ At wx w2.heap.size 26 #[.int .i64 P, .int .i64 T] ∧ At wx b7 26 #[.int .i64 (P), .int .i64 (T)] ∧ Below w.heap.size w wx)
    case first =>
      have n0 := N3.cell 0
      have n1 := N3.cell 1
      have n2 := N3.cell 2
      have n3 := N3.cell 3
      have s0 := S3.cell 0
      have s1 := S3.cell 1
      go_region_held3 (fun w' => w'.cell? ⟨w.heap.size, 0, none⟩ = some (.int .i64 p) ∧ w'.cell? ⟨w.heap.size, 1, none⟩ = some (.int .i64 a) ∧ w'.cell? ⟨w.heap.size, 2, none⟩ = some (.int .i64 u) ∧ w'.cell? ⟨w.heap.size, 3, none⟩ = some (.int .i64 t) ∧ w'.cell? ⟨w2.heap.size, 0, none⟩ = some (.int .i64 P) ∧ w'.cell? ⟨w2.heap.size, 1, none⟩ = some (.int .i64 T))
        (first | exact ⟨n0, n1, n2, n3, s0, s1⟩ | (refine six (t := 23) (t' := 26) ?_ ?_ <;> (repeat (first | with_reducible assumption | with_reducible exact At.new _ _ _ | with_reducible refine At.drew ?_ | with_reducible refine At.alloc ?_ _ | (with_reducible refine At.far ?_ ?_ _; rotate_left; ((try have q4 := hb4.size); (try have q5 := hb5.size); (try have q6 := hb6.size); (try simp at q4); (try simp at q5); (try simp at q6); simp; omega)) | (with_reducible refine At.step ?_ (by with_reducible assumption))))))
        (first
          | (go_at_call 12; refine (active_any p a u t _).mono ?_; rintro e w4 ⟨rfl, hb4⟩; rw [hA.out]; (first | with_reducible have R4 := At.step (At.new _ 26 #[.int .i64 0, .int .i64 0]) hb4 | with_reducible have R4 := At.step (At.drew (At.new _ 26 #[.int .i64 0, .int .i64 0])) hb4 | skip))
          | (go_at_call 13; refine (use_any p a u t _ u0 u1).mono ?_; rintro e w5 ⟨rfl, hb5⟩; rw [hU.out]; (first | have R5 := R4.step hb5 | with_reducible have R5 := At.step (At.new _ 26 #[.int .i64 0, .int .i64 0]) hb5 | with_reducible have R5 := At.step (At.drew (At.new _ 26 #[.int .i64 0, .int .i64 0])) hb5 | skip))
          | (go_at_call 11; refine (next_any _ _ _ _ _ _).mono ?_; rintro e w6 ⟨rfl, hb6⟩; rw [hR.out]; (first | have R6 := R5.step hb6 | with_reducible have R6 := At.step (At.new _ 26 #[.int .i64 0, .int .i64 0]) hb6 | with_reducible have R6 := At.step (At.drew (At.new _ 26 #[.int .i64 0, .int .i64 0])) hb6 | skip); (first | (have rr0 := R6.cell 0; have rr1 := R6.cell 1; have rf0 := R6.free 0; have rf1 := R6.free 1; try simp only [World.size_drew] at rr0 rr1 rf0 rf1) | skip)))
      all_goals
        go_wp2_with fail
        go_meet
        refine ⟨_, rfl, rfl, l0, ?_, ?_, ?_, ?_, ?_⟩
        · ((try have q4 := hb4.size); (try have q5 := hb5.size); (try have q6 := hb6.size); (try simp at q4); (try simp at q5); (try simp at q6); simp; omega)
        · (repeat (first | with_reducible assumption | with_reducible exact At.new _ _ _ | with_reducible refine At.drew ?_ | with_reducible refine At.alloc ?_ _ | (with_reducible refine At.far ?_ ?_ _; rotate_left; ((try have q4 := hb4.size); (try have q5 := hb5.size); (try have q6 := hb6.size); (try simp at q4); (try simp at q5); (try simp at q6); simp; omega)) | (with_reducible refine At.step ?_ (by with_reducible assumption))))
        · (repeat (first | with_reducible assumption | with_reducible exact At.new _ _ _ | with_reducible refine At.drew ?_ | with_reducible refine At.alloc ?_ _ | (with_reducible refine At.far ?_ ?_ _; rotate_left; ((try have q4 := hb4.size); (try have q5 := hb5.size); (try have q6 := hb6.size); (try simp at q4); (try simp at q5); (try simp at q6); simp; omega)) | (with_reducible refine At.step ?_ (by with_reducible assumption))))
        · first | exact At.put2 (by repeat (first | with_reducible assumption | with_reducible exact At.new _ _ _ | with_reducible refine At.drew ?_ | with_reducible refine At.alloc ?_ _ | (with_reducible refine At.far ?_ ?_ _; rotate_left; ((try have q4 := hb4.size); (try have q5 := hb5.size); (try have q6 := hb6.size); (try simp at q4); (try simp at q5); (try simp at q6); simp; omega)) | (with_reducible refine At.step ?_ (by with_reducible assumption)))) | (with_reducible exact At.new _ _ _)
        · (repeat (first | with_reducible assumption | with_reducible refine Below.drew ?_ | (with_reducible refine Below.alloc ?_ ?_ _; rotate_left; ((try have q4 := hb4.size); (try have q5 := hb5.size); (try have q6 := hb6.size); (try simp at q4); (try simp at q5); (try simp at q6); simp; omega)) | (with_reducible refine Below.setCell ?_ ?_ _; rotate_left; ((try have q4 := hb4.size); (try have q5 := hb5.size); (try have q6 := hb6.size); (try simp at q4); (try simp at q5); (try simp at q6); simp; omega)) | (with_reducible refine below_step ?_ (by with_reducible assumption))))
    case rest =>
      obtain ⟨b7, rfl, rfl, l2, l7, N7, S7, R7, B7⟩ := hcut
      have n0 := N7.cell 0
      have n1 := N7.cell 1
      have n2 := N7.cell 2
      have n3 := N7.cell 3
      have s0 := S7.cell 0
      have s1 := S7.cell 1
      have r0 := R7.cell 0
      have r1 := R7.cell 1
      go_wp2_with fail
      go_ret
      exact ⟨rfl, B7⟩
  · have hR := Lib.hid hR'
    clear hR'
    go_enter Try.func3, Try.ntmps3
    go_wp2_with fail
    refine (awake_any _).mono ?_; rintro e w1 ⟨rfl, hb1⟩
    have B1 := below_step ((Below.refl _ _).alloc (Nat.le_refl _) _) hb1
    have N1 := (At.new w 23 #[.int .i64 p, .int .i64 a, .int .i64 u, .int .i64 t]).below hb1 (by simp)
    clear hb1
    have n0 := N1.cell 0
    have n1 := N1.cell 1
    have n2 := N1.cell 2
    have n3 := N1.cell 3
    go_wp2_with fail
    clear n0 n1 n2 n3
    refine (part_any p a u t _).mono ?_; rintro e w2 ⟨rfl, hb2⟩
    rw [hP.out, hT.out]
    have B2 := below_step B1 hb2
    have N2 := N1.below hb2 N1.lt
    clear N1 B1 hb2
    go_wp2_with fail
    obtain ⟨W3, hW3⟩ : ∃ W3, W3 = w2.alloc (.cells #[.int .i64 P, .int .i64 T] 26) := ⟨_, rfl⟩
    go_upto_region 3 with fail
    rw [← hW3]
    have B3 : Below w.heap.size w W3 := by rw [hW3]; exact B2.alloc B2.size _
    have N3 : At W3 w.heap.size 23 #[.int .i64 p, .int .i64 a, .int .i64 u, .int .i64 t] := by rw [hW3]; exact N2.alloc _
    have S3 : At W3 w2.heap.size 26 #[.int .i64 P, .int .i64 T] := by rw [hW3]; exact At.new _ _ _
    have l0 := N2.lt
    have l3 := S3.lt
    clear hW3 B2 N2
    go_cut [7, 8] (fun s7 s8 wx => ∃ b7 : Nat, s7 = .pointer (some ⟨b7, 0, none⟩) ∧ s8 = .int .i64 (0) ∧ w.heap.size < w2.heap.size ∧ w2.heap.size < b7 ∧ At wx w.heap.size 23 #[.int .i64 p, .int .i64 a, .int .i64 u, .int .i64 t] ∧ At wx w2.heap.size 26 #[.int .i64 P, .int .i64 T] ∧ At wx b7 26 #[.int .i64 (P), .int .i64 (T - 1)] ∧ Below w.heap.size w wx)
    case first =>
      have n0 := N3.cell 0
      have n1 := N3.cell 1
      have n2 := N3.cell 2
      have n3 := N3.cell 3
      have s0 := S3.cell 0
      have s1 := S3.cell 1
      go_region_held3 (fun w' => w'.cell? ⟨w.heap.size, 0, none⟩ = some (.int .i64 p) ∧ w'.cell? ⟨w.heap.size, 1, none⟩ = some (.int .i64 a) ∧ w'.cell? ⟨w.heap.size, 2, none⟩ = some (.int .i64 u) ∧ w'.cell? ⟨w.heap.size, 3, none⟩ = some (.int .i64 t) ∧ w'.cell? ⟨w2.heap.size, 0, none⟩ = some (.int .i64 P) ∧ w'.cell? ⟨w2.heap.size, 1, none⟩ = some (.int .i64 T))
        (first | exact ⟨n0, n1, n2, n3, s0, s1⟩ | (refine six (t := 23) (t' := 26) ?_ ?_ <;> (repeat (first | with_reducible assumption | with_reducible exact At.new _ _ _ | with_reducible refine At.drew ?_ | with_reducible refine At.alloc ?_ _ | (with_reducible refine At.far ?_ ?_ _; rotate_left; ((try have q4 := hb4.size); (try have q5 := hb5.size); (try have q6 := hb6.size); (try simp at q4); (try simp at q5); (try simp at q6); simp; omega)) | (with_reducible refine At.step ?_ (by with_reducible assumption))))))
        (first
          | (go_at_call 12; refine (active_any p a u t _).mono ?_; rintro e w4 ⟨rfl, hb4⟩; rw [hA.out]; (first | with_reducible have R4 := At.step (At.new _ 26 #[.int .i64 0, .int .i64 0]) hb4 | with_reducible have R4 := At.step (At.drew (At.new _ 26 #[.int .i64 0, .int .i64 0])) hb4 | skip))
          | (go_at_call 13; refine (use_any p a u t _ u0 u1).mono ?_; rintro e w5 ⟨rfl, hb5⟩; rw [hU.out]; (first | have R5 := R4.step hb5 | with_reducible have R5 := At.step (At.new _ 26 #[.int .i64 0, .int .i64 0]) hb5 | with_reducible have R5 := At.step (At.drew (At.new _ 26 #[.int .i64 0, .int .i64 0])) hb5 | skip))
          | (go_at_call 11; refine (next_any _ _ _ _ _ _).mono ?_; rintro e w6 ⟨rfl, hb6⟩; rw [hR.out]; (first | have R6 := R5.step hb6 | with_reducible have R6 := At.step (At.new _ 26 #[.int .i64 0, .int .i64 0]) hb6 | with_reducible have R6 := At.step (At.drew (At.new _ 26 #[.int .i64 0, .int .i64 0])) hb6 | skip); (first | (have rr0 := R6.cell 0; have rr1 := R6.cell 1; have rf0 := R6.free 0; have rf1 := R6.free 1; try simp only [World.size_drew] at rr0 rr1 rf0 rf1) | skip)))
      all_goals
        go_wp2_with fail
        go_meet
        refine ⟨_, rfl, rfl, l0, ?_, ?_, ?_, ?_, ?_⟩
        · ((try have q4 := hb4.size); (try have q5 := hb5.size); (try have q6 := hb6.size); (try simp at q4); (try simp at q5); (try simp at q6); simp; omega)
        · (repeat (first | with_reducible assumption | with_reducible exact At.new _ _ _ | with_reducible refine At.drew ?_ | with_reducible refine At.alloc ?_ _ | (with_reducible refine At.far ?_ ?_ _; rotate_left; ((try have q4 := hb4.size); (try have q5 := hb5.size); (try have q6 := hb6.size); (try simp at q4); (try simp at q5); (try simp at q6); simp; omega)) | (with_reducible refine At.step ?_ (by with_reducible assumption))))
        · (repeat (first | with_reducible assumption | with_reducible exact At.new _ _ _ | with_reducible refine At.drew ?_ | with_reducible refine At.alloc ?_ _ | (with_reducible refine At.far ?_ ?_ _; rotate_left; ((try have q4 := hb4.size); (try have q5 := hb5.size); (try have q6 := hb6.size); (try simp at q4); (try simp at q5); (try simp at q6); simp; omega)) | (with_reducible refine At.step ?_ (by with_reducible assumption))))
        · first | exact At.put2 (by repeat (first | with_reducible assumption | with_reducible exact At.new _ _ _ | with_reducible refine At.drew ?_ | with_reducible refine At.alloc ?_ _ | (with_reducible refine At.far ?_ ?_ _; rotate_left; ((try have q4 := hb4.size); (try have q5 := hb5.size); (try have q6 := hb6.size); (try simp at q4); (try simp at q5); (try simp at q6); simp; omega)) | (with_reducible refine At.step ?_ (by with_reducible assumption)))) | (with_reducible exact At.new _ _ _)
        · (repeat (first | with_reducible assumption | with_reducible refine Below.drew ?_ | (with_reducible refine Below.alloc ?_ ?_ _; rotate_left; ((try have q4 := hb4.size); (try have q5 := hb5.size); (try have q6 := hb6.size); (try simp at q4); (try simp at q5); (try simp at q6); simp; omega)) | (with_reducible refine Below.setCell ?_ ?_ _; rotate_left; ((try have q4 := hb4.size); (try have q5 := hb5.size); (try have q6 := hb6.size); (try simp at q4); (try simp at q5); (try simp at q6); simp; omega)) | (with_reducible refine below_step ?_ (by with_reducible assumption))))
    case rest =>
      obtain ⟨b7, rfl, rfl, l2, l7, N7, S7, R7, B7⟩ := hcut
      have n0 := N7.cell 0
      have n1 := N7.cell 1
      have n2 := N7.cell 2
      have n3 := N7.cell 3
      have s0 := S7.cell 0
      have s1 := S7.cell 1
      have r0 := R7.cell 0
      have r1 := R7.cell 1
      have e1 : (T - 1 == T) = false := beq_eq_false_iff_ne.2 (by omega)
      have hPU := prod_bd P U 1073741823 10000 ⟨bP.1, bP.2⟩ ⟨by omega, bU.2⟩
      obtain ⟨hPU0, hPU1⟩ := hPU
      go_wp2_with fail
      go_region_held3 (fun w' => w'.cell? ⟨w.heap.size, 0, none⟩ = some (.int .i64 p) ∧ w'.cell? ⟨w.heap.size, 1, none⟩ = some (.int .i64 a) ∧ w'.cell? ⟨w.heap.size, 2, none⟩ = some (.int .i64 u) ∧ w'.cell? ⟨w.heap.size, 3, none⟩ = some (.int .i64 t) ∧ w'.cell? ⟨w2.heap.size, 0, none⟩ = some (.int .i64 P))
        (first | exact ⟨n0, n1, n2, n3, s0⟩ | exact ⟨N8.cell 0, N8.cell 1, N8.cell 2, N8.cell 3, S8.cell 0⟩ | exact ⟨N9.cell 0, N9.cell 1, N9.cell 2, N9.cell 3, S9.cell 0⟩ | go_keep)
        (first
          | (go_at_call 12; refine (active_any p a u t _).mono ?_; rintro e w8 ⟨rfl, hb8⟩; rw [hA.out]; have N8 := N7.drew.below hb8 N7.lt; have S8 := S7.drew.below hb8 S7.lt; have R8 := R7.drew.below hb8 R7.lt; have B8 := below_step B7.drew hb8)
          | (go_at_call 13; refine (use_any p a u t _ u0 u1).mono ?_; rintro e w9 ⟨rfl, hb9⟩; rw [hU.out]; have N9 := N8.below hb9 N8.lt; have S9 := S8.below hb9 S8.lt; have R9 := R8.below hb9 R8.lt; have B9 := below_step B8 hb9))
      clear n0 n1 n2 n3 s0 s1 r0 r1 N7 N8 S7 S8 R7 R8 B7 B8 hb8 hb9
      have s0 := S9.cell 0
      have s1 := S9.cell 1
      have r0 := R9.cell 0
      have r1 := R9.cell 1
      go_wp2_with fail
      go_ret
      exact ⟨rfl, B9⟩
  · have hR := Lib.hid hR'
    clear hR'
    go_enter Try.func3, Try.ntmps3
    go_wp2_with fail
    refine (awake_any _).mono ?_; rintro e w1 ⟨rfl, hb1⟩
    have B1 := below_step ((Below.refl _ _).alloc (Nat.le_refl _) _) hb1
    have N1 := (At.new w 23 #[.int .i64 p, .int .i64 a, .int .i64 u, .int .i64 t]).below hb1 (by simp)
    clear hb1
    have n0 := N1.cell 0
    have n1 := N1.cell 1
    have n2 := N1.cell 2
    have n3 := N1.cell 3
    go_wp2_with fail
    clear n0 n1 n2 n3
    refine (part_any p a u t _).mono ?_; rintro e w2 ⟨rfl, hb2⟩
    rw [hP.out, hT.out]
    have B2 := below_step B1 hb2
    have N2 := N1.below hb2 N1.lt
    clear N1 B1 hb2
    go_wp2_with fail
    obtain ⟨W3, hW3⟩ : ∃ W3, W3 = w2.alloc (.cells #[.int .i64 P, .int .i64 T] 26) := ⟨_, rfl⟩
    go_upto_region 3 with fail
    rw [← hW3]
    have B3 : Below w.heap.size w W3 := by rw [hW3]; exact B2.alloc B2.size _
    have N3 : At W3 w.heap.size 23 #[.int .i64 p, .int .i64 a, .int .i64 u, .int .i64 t] := by rw [hW3]; exact N2.alloc _
    have S3 : At W3 w2.heap.size 26 #[.int .i64 P, .int .i64 T] := by rw [hW3]; exact At.new _ _ _
    have l0 := N2.lt
    have l3 := S3.lt
    clear hW3 B2 N2
    go_cut [7, 8] (fun s7 s8 wx => ∃ b7 : Nat, s7 = .pointer (some ⟨b7, 0, none⟩) ∧ s8 = .int .i64 (0) ∧ w.heap.size < w2.heap.size ∧ w2.heap.size < b7 ∧ At wx w.heap.size 23 #[.int .i64 p, .int .i64 a, .int .i64 u, .int .i64 t] ∧ At wx w2.heap.size 26 #[.int .i64 P, .int .i64 T] ∧ At wx b7 26 #[.int .i64 (P), .int .i64 (T - 1)] ∧ Below w.heap.size w wx)
    case first =>
      have n0 := N3.cell 0
      have n1 := N3.cell 1
      have n2 := N3.cell 2
      have n3 := N3.cell 3
      have s0 := S3.cell 0
      have s1 := S3.cell 1
      go_region_held3 (fun w' => w'.cell? ⟨w.heap.size, 0, none⟩ = some (.int .i64 p) ∧ w'.cell? ⟨w.heap.size, 1, none⟩ = some (.int .i64 a) ∧ w'.cell? ⟨w.heap.size, 2, none⟩ = some (.int .i64 u) ∧ w'.cell? ⟨w.heap.size, 3, none⟩ = some (.int .i64 t) ∧ w'.cell? ⟨w2.heap.size, 0, none⟩ = some (.int .i64 P) ∧ w'.cell? ⟨w2.heap.size, 1, none⟩ = some (.int .i64 T))
        (first | exact ⟨n0, n1, n2, n3, s0, s1⟩ | (refine six (t := 23) (t' := 26) ?_ ?_ <;> (repeat (first | with_reducible assumption | with_reducible exact At.new _ _ _ | with_reducible refine At.drew ?_ | with_reducible refine At.alloc ?_ _ | (with_reducible refine At.far ?_ ?_ _; rotate_left; ((try have q4 := hb4.size); (try have q5 := hb5.size); (try have q6 := hb6.size); (try simp at q4); (try simp at q5); (try simp at q6); simp; omega)) | (with_reducible refine At.step ?_ (by with_reducible assumption))))))
        (first
          | (go_at_call 12; refine (active_any p a u t _).mono ?_; rintro e w4 ⟨rfl, hb4⟩; rw [hA.out]; (first | with_reducible have R4 := At.step (At.new _ 26 #[.int .i64 0, .int .i64 0]) hb4 | with_reducible have R4 := At.step (At.drew (At.new _ 26 #[.int .i64 0, .int .i64 0])) hb4 | skip))
          | (go_at_call 13; refine (use_any p a u t _ u0 u1).mono ?_; rintro e w5 ⟨rfl, hb5⟩; rw [hU.out]; (first | have R5 := R4.step hb5 | with_reducible have R5 := At.step (At.new _ 26 #[.int .i64 0, .int .i64 0]) hb5 | with_reducible have R5 := At.step (At.drew (At.new _ 26 #[.int .i64 0, .int .i64 0])) hb5 | skip))
          | (go_at_call 11; refine (next_any _ _ _ _ _ _).mono ?_; rintro e w6 ⟨rfl, hb6⟩; rw [hR.out]; (first | have R6 := R5.step hb6 | with_reducible have R6 := At.step (At.new _ 26 #[.int .i64 0, .int .i64 0]) hb6 | with_reducible have R6 := At.step (At.drew (At.new _ 26 #[.int .i64 0, .int .i64 0])) hb6 | skip); (first | (have rr0 := R6.cell 0; have rr1 := R6.cell 1; have rf0 := R6.free 0; have rf1 := R6.free 1; try simp only [World.size_drew] at rr0 rr1 rf0 rf1) | skip)))
      all_goals
        go_wp2_with fail
        go_meet
        refine ⟨_, rfl, rfl, l0, ?_, ?_, ?_, ?_, ?_⟩
        · ((try have q4 := hb4.size); (try have q5 := hb5.size); (try have q6 := hb6.size); (try simp at q4); (try simp at q5); (try simp at q6); simp; omega)
        · (repeat (first | with_reducible assumption | with_reducible exact At.new _ _ _ | with_reducible refine At.drew ?_ | with_reducible refine At.alloc ?_ _ | (with_reducible refine At.far ?_ ?_ _; rotate_left; ((try have q4 := hb4.size); (try have q5 := hb5.size); (try have q6 := hb6.size); (try simp at q4); (try simp at q5); (try simp at q6); simp; omega)) | (with_reducible refine At.step ?_ (by with_reducible assumption))))
        · (repeat (first | with_reducible assumption | with_reducible exact At.new _ _ _ | with_reducible refine At.drew ?_ | with_reducible refine At.alloc ?_ _ | (with_reducible refine At.far ?_ ?_ _; rotate_left; ((try have q4 := hb4.size); (try have q5 := hb5.size); (try have q6 := hb6.size); (try simp at q4); (try simp at q5); (try simp at q6); simp; omega)) | (with_reducible refine At.step ?_ (by with_reducible assumption))))
        · first | exact At.put2 (by repeat (first | with_reducible assumption | with_reducible exact At.new _ _ _ | with_reducible refine At.drew ?_ | with_reducible refine At.alloc ?_ _ | (with_reducible refine At.far ?_ ?_ _; rotate_left; ((try have q4 := hb4.size); (try have q5 := hb5.size); (try have q6 := hb6.size); (try simp at q4); (try simp at q5); (try simp at q6); simp; omega)) | (with_reducible refine At.step ?_ (by with_reducible assumption)))) | (with_reducible exact At.new _ _ _)
        · (repeat (first | with_reducible assumption | with_reducible refine Below.drew ?_ | (with_reducible refine Below.alloc ?_ ?_ _; rotate_left; ((try have q4 := hb4.size); (try have q5 := hb5.size); (try have q6 := hb6.size); (try simp at q4); (try simp at q5); (try simp at q6); simp; omega)) | (with_reducible refine Below.setCell ?_ ?_ _; rotate_left; ((try have q4 := hb4.size); (try have q5 := hb5.size); (try have q6 := hb6.size); (try simp at q4); (try simp at q5); (try simp at q6); simp; omega)) | (with_reducible refine below_step ?_ (by with_reducible assumption))))
    case rest =>
      obtain ⟨b7, rfl, rfl, l2, l7, N7, S7, R7, B7⟩ := hcut
      have n0 := N7.cell 0
      have n1 := N7.cell 1
      have n2 := N7.cell 2
      have n3 := N7.cell 3
      have s0 := S7.cell 0
      have s1 := S7.cell 1
      have r0 := R7.cell 0
      have r1 := R7.cell 1
      have e1 : (T - 1 == T) = false := beq_eq_false_iff_ne.2 (by omega)
      have hPU := prod_bd P U 1073741823 10000 ⟨bP.1, bP.2⟩ ⟨by omega, bU.2⟩
      obtain ⟨hPU0, hPU1⟩ := hPU
      have e2 : ¬ P * U ≤ A * 10000 := by omega
      go_wp2_with fail
      go_region_held3 (fun w' => w'.cell? ⟨w.heap.size, 0, none⟩ = some (.int .i64 p) ∧ w'.cell? ⟨w.heap.size, 1, none⟩ = some (.int .i64 a) ∧ w'.cell? ⟨w.heap.size, 2, none⟩ = some (.int .i64 u) ∧ w'.cell? ⟨w.heap.size, 3, none⟩ = some (.int .i64 t) ∧ w'.cell? ⟨w2.heap.size, 0, none⟩ = some (.int .i64 P))
        (first | exact ⟨n0, n1, n2, n3, s0⟩ | exact ⟨N8.cell 0, N8.cell 1, N8.cell 2, N8.cell 3, S8.cell 0⟩ | exact ⟨N9.cell 0, N9.cell 1, N9.cell 2, N9.cell 3, S9.cell 0⟩ | go_keep)
        (first
          | (go_at_call 12; refine (active_any p a u t _).mono ?_; rintro e w8 ⟨rfl, hb8⟩; rw [hA.out]; have N8 := N7.drew.below hb8 N7.lt; have S8 := S7.drew.below hb8 S7.lt; have R8 := R7.drew.below hb8 R7.lt; have B8 := below_step B7.drew hb8)
          | (go_at_call 13; refine (use_any p a u t _ u0 u1).mono ?_; rintro e w9 ⟨rfl, hb9⟩; rw [hU.out]; have N9 := N8.below hb9 N8.lt; have S9 := S8.below hb9 S8.lt; have R9 := R8.below hb9 R8.lt; have B9 := below_step B8 hb9))
      clear n0 n1 n2 n3 s0 s1 r0 r1 N7 N8 S7 S8 R7 R8 B7 B8 hb8 hb9
      have s0 := S9.cell 0
      have s1 := S9.cell 1
      have r0 := R9.cell 0
      have r1 := R9.cell 1
      go_wp2_with fail
      go_ret
      exact ⟨rfl, B9⟩
  · have hR := Lib.hid hR'
    clear hR'
    go_enter Try.func3, Try.ntmps3
    go_wp2_with fail
    refine (awake_any _).mono ?_; rintro e w1 ⟨rfl, hb1⟩
    have B1 := below_step ((Below.refl _ _).alloc (Nat.le_refl _) _) hb1
    have N1 := (At.new w 23 #[.int .i64 p, .int .i64 a, .int .i64 u, .int .i64 t]).below hb1 (by simp)
    clear hb1
    have n0 := N1.cell 0
    have n1 := N1.cell 1
    have n2 := N1.cell 2
    have n3 := N1.cell 3
    go_wp2_with fail
    clear n0 n1 n2 n3
    refine (part_any p a u t _).mono ?_; rintro e w2 ⟨rfl, hb2⟩
    rw [hP.out, hT.out]
    have B2 := below_step B1 hb2
    have N2 := N1.below hb2 N1.lt
    clear N1 B1 hb2
    go_wp2_with fail
    obtain ⟨W3, hW3⟩ : ∃ W3, W3 = w2.alloc (.cells #[.int .i64 P, .int .i64 T] 26) := ⟨_, rfl⟩
    go_upto_region 3 with fail
    rw [← hW3]
    have B3 : Below w.heap.size w W3 := by rw [hW3]; exact B2.alloc B2.size _
    have N3 : At W3 w.heap.size 23 #[.int .i64 p, .int .i64 a, .int .i64 u, .int .i64 t] := by rw [hW3]; exact N2.alloc _
    have S3 : At W3 w2.heap.size 26 #[.int .i64 P, .int .i64 T] := by rw [hW3]; exact At.new _ _ _
    have l0 := N2.lt
    have l3 := S3.lt
    clear hW3 B2 N2
    go_cut [7, 8] (fun s7 s8 wx => ∃ b7 : Nat, s7 = .pointer (some ⟨b7, 0, none⟩) ∧ s8 = .int .i64 (0) ∧ w.heap.size < w2.heap.size ∧ w2.heap.size < b7 ∧ At wx w.heap.size 23 #[.int .i64 p, .int .i64 a, .int .i64 u, .int .i64 t] ∧ At wx w2.heap.size 26 #[.int .i64 P, .int .i64 T] ∧ At wx b7 26 #[.int .i64 (q), .int .i64 (T)] ∧ Below w.heap.size w wx)
    case first =>
      have n0 := N3.cell 0
      have n1 := N3.cell 1
      have n2 := N3.cell 2
      have n3 := N3.cell 3
      have s0 := S3.cell 0
      have s1 := S3.cell 1
      go_region_held3 (fun w' => w'.cell? ⟨w.heap.size, 0, none⟩ = some (.int .i64 p) ∧ w'.cell? ⟨w.heap.size, 1, none⟩ = some (.int .i64 a) ∧ w'.cell? ⟨w.heap.size, 2, none⟩ = some (.int .i64 u) ∧ w'.cell? ⟨w.heap.size, 3, none⟩ = some (.int .i64 t) ∧ w'.cell? ⟨w2.heap.size, 0, none⟩ = some (.int .i64 P) ∧ w'.cell? ⟨w2.heap.size, 1, none⟩ = some (.int .i64 T))
        (first | exact ⟨n0, n1, n2, n3, s0, s1⟩ | (refine six (t := 23) (t' := 26) ?_ ?_ <;> (repeat (first | with_reducible assumption | with_reducible exact At.new _ _ _ | with_reducible refine At.drew ?_ | with_reducible refine At.alloc ?_ _ | (with_reducible refine At.far ?_ ?_ _; rotate_left; ((try have q4 := hb4.size); (try have q5 := hb5.size); (try have q6 := hb6.size); (try simp at q4); (try simp at q5); (try simp at q6); simp; omega)) | (with_reducible refine At.step ?_ (by with_reducible assumption))))))
        (first
          | (go_at_call 12; refine (active_any p a u t _).mono ?_; rintro e w4 ⟨rfl, hb4⟩; rw [hA.out]; (first | with_reducible have R4 := At.step (At.new _ 26 #[.int .i64 0, .int .i64 0]) hb4 | with_reducible have R4 := At.step (At.drew (At.new _ 26 #[.int .i64 0, .int .i64 0])) hb4 | skip))
          | (go_at_call 13; refine (use_any p a u t _ u0 u1).mono ?_; rintro e w5 ⟨rfl, hb5⟩; rw [hU.out]; (first | have R5 := R4.step hb5 | with_reducible have R5 := At.step (At.new _ 26 #[.int .i64 0, .int .i64 0]) hb5 | with_reducible have R5 := At.step (At.drew (At.new _ 26 #[.int .i64 0, .int .i64 0])) hb5 | skip))
          | (go_at_call 11; refine (next_any _ _ _ _ _ _).mono ?_; rintro e w6 ⟨rfl, hb6⟩; rw [hR.out]; (first | have R6 := R5.step hb6 | with_reducible have R6 := At.step (At.new _ 26 #[.int .i64 0, .int .i64 0]) hb6 | with_reducible have R6 := At.step (At.drew (At.new _ 26 #[.int .i64 0, .int .i64 0])) hb6 | skip); (first | (have rr0 := R6.cell 0; have rr1 := R6.cell 1; have rf0 := R6.free 0; have rf1 := R6.free 1; try simp only [World.size_drew] at rr0 rr1 rf0 rf1) | skip)))
      all_goals
        go_wp2_with fail
        go_meet
        refine ⟨_, rfl, rfl, l0, ?_, ?_, ?_, ?_, ?_⟩
        · ((try have q4 := hb4.size); (try have q5 := hb5.size); (try have q6 := hb6.size); (try simp at q4); (try simp at q5); (try simp at q6); simp; omega)
        · (repeat (first | with_reducible assumption | with_reducible exact At.new _ _ _ | with_reducible refine At.drew ?_ | with_reducible refine At.alloc ?_ _ | (with_reducible refine At.far ?_ ?_ _; rotate_left; ((try have q4 := hb4.size); (try have q5 := hb5.size); (try have q6 := hb6.size); (try simp at q4); (try simp at q5); (try simp at q6); simp; omega)) | (with_reducible refine At.step ?_ (by with_reducible assumption))))
        · (repeat (first | with_reducible assumption | with_reducible exact At.new _ _ _ | with_reducible refine At.drew ?_ | with_reducible refine At.alloc ?_ _ | (with_reducible refine At.far ?_ ?_ _; rotate_left; ((try have q4 := hb4.size); (try have q5 := hb5.size); (try have q6 := hb6.size); (try simp at q4); (try simp at q5); (try simp at q6); simp; omega)) | (with_reducible refine At.step ?_ (by with_reducible assumption))))
        · first | exact At.put2 (by repeat (first | with_reducible assumption | with_reducible exact At.new _ _ _ | with_reducible refine At.drew ?_ | with_reducible refine At.alloc ?_ _ | (with_reducible refine At.far ?_ ?_ _; rotate_left; ((try have q4 := hb4.size); (try have q5 := hb5.size); (try have q6 := hb6.size); (try simp at q4); (try simp at q5); (try simp at q6); simp; omega)) | (with_reducible refine At.step ?_ (by with_reducible assumption)))) | (with_reducible exact At.new _ _ _)
        · (repeat (first | with_reducible assumption | with_reducible refine Below.drew ?_ | (with_reducible refine Below.alloc ?_ ?_ _; rotate_left; ((try have q4 := hb4.size); (try have q5 := hb5.size); (try have q6 := hb6.size); (try simp at q4); (try simp at q5); (try simp at q6); simp; omega)) | (with_reducible refine Below.setCell ?_ ?_ _; rotate_left; ((try have q4 := hb4.size); (try have q5 := hb5.size); (try have q6 := hb6.size); (try simp at q4); (try simp at q5); (try simp at q6); simp; omega)) | (with_reducible refine below_step ?_ (by with_reducible assumption))))
    case rest =>
      obtain ⟨b7, rfl, rfl, l2, l7, N7, S7, R7, B7⟩ := hcut
      have n0 := N7.cell 0
      have n1 := N7.cell 1
      have n2 := N7.cell 2
      have n3 := N7.cell 3
      have s0 := S7.cell 0
      have s1 := S7.cell 1
      have r0 := R7.cell 0
      have r1 := R7.cell 1
      have hPU := prod_bd P U 1073741823 10000 ⟨bP.1, bP.2⟩ ⟨by omega, bU.2⟩
      obtain ⟨hPU0, hPU1⟩ := hPU
      have e2 : ¬ P * U ≤ A * 10000 := by omega
      go_wp2_with fail
      go_region_held3 (fun w' => w'.cell? ⟨w.heap.size, 0, none⟩ = some (.int .i64 p) ∧ w'.cell? ⟨w.heap.size, 1, none⟩ = some (.int .i64 a) ∧ w'.cell? ⟨w.heap.size, 2, none⟩ = some (.int .i64 u) ∧ w'.cell? ⟨w.heap.size, 3, none⟩ = some (.int .i64 t) ∧ w'.cell? ⟨w2.heap.size, 0, none⟩ = some (.int .i64 P))
        (first | exact ⟨n0, n1, n2, n3, s0⟩ | exact ⟨N8.cell 0, N8.cell 1, N8.cell 2, N8.cell 3, S8.cell 0⟩ | exact ⟨N9.cell 0, N9.cell 1, N9.cell 2, N9.cell 3, S9.cell 0⟩ | go_keep)
        (first
          | (go_at_call 12; refine (active_any p a u t _).mono ?_; rintro e w8 ⟨rfl, hb8⟩; rw [hA.out]; have N8 := N7.drew.below hb8 N7.lt; have S8 := S7.drew.below hb8 S7.lt; have R8 := R7.drew.below hb8 R7.lt; have B8 := below_step B7.drew hb8)
          | (go_at_call 13; refine (use_any p a u t _ u0 u1).mono ?_; rintro e w9 ⟨rfl, hb9⟩; rw [hU.out]; have N9 := N8.below hb9 N8.lt; have S9 := S8.below hb9 S8.lt; have R9 := R8.below hb9 R8.lt; have B9 := below_step B8 hb9))
      clear n0 n1 n2 n3 s0 s1 r0 r1 N7 N8 S7 S8 R7 R8 B7 B8 hb8 hb9
      have s0 := S9.cell 0
      have s1 := S9.cell 1
      have r0 := R9.cell 0
      have r1 := R9.cell 1
      go_wp2_with fail
      go_ret
      exact ⟨rfl, B9⟩
  · have hR := Lib.hid hR'
    clear hR'
    go_enter Try.func3, Try.ntmps3
    go_wp2_with fail
    refine (awake_any _).mono ?_; rintro e w1 ⟨rfl, hb1⟩
    have B1 := below_step ((Below.refl _ _).alloc (Nat.le_refl _) _) hb1
    have N1 := (At.new w 23 #[.int .i64 p, .int .i64 a, .int .i64 u, .int .i64 t]).below hb1 (by simp)
    clear hb1
    have n0 := N1.cell 0
    have n1 := N1.cell 1
    have n2 := N1.cell 2
    have n3 := N1.cell 3
    go_wp2_with fail
    clear n0 n1 n2 n3
    refine (part_any p a u t _).mono ?_; rintro e w2 ⟨rfl, hb2⟩
    rw [hP.out, hT.out]
    have B2 := below_step B1 hb2
    have N2 := N1.below hb2 N1.lt
    clear N1 B1 hb2
    go_wp2_with fail
    obtain ⟨W3, hW3⟩ : ∃ W3, W3 = w2.alloc (.cells #[.int .i64 P, .int .i64 T] 26) := ⟨_, rfl⟩
    go_upto_region 3 with fail
    rw [← hW3]
    have B3 : Below w.heap.size w W3 := by rw [hW3]; exact B2.alloc B2.size _
    have N3 : At W3 w.heap.size 23 #[.int .i64 p, .int .i64 a, .int .i64 u, .int .i64 t] := by rw [hW3]; exact N2.alloc _
    have S3 : At W3 w2.heap.size 26 #[.int .i64 P, .int .i64 T] := by rw [hW3]; exact At.new _ _ _
    have l0 := N2.lt
    have l3 := S3.lt
    clear hW3 B2 N2
    go_cut [7, 8] (fun s7 s8 wx => ∃ b7 : Nat, s7 = .pointer (some ⟨b7, 0, none⟩) ∧ s8 = .int .i64 (0) ∧ w.heap.size < w2.heap.size ∧ w2.heap.size < b7 ∧ At wx w.heap.size 23 #[.int .i64 p, .int .i64 a, .int .i64 u, .int .i64 t] ∧ At wx w2.heap.size 26 #[.int .i64 P, .int .i64 T] ∧ At wx b7 26 #[.int .i64 (P), .int .i64 (T)] ∧ Below w.heap.size w wx)
    case first =>
      have n0 := N3.cell 0
      have n1 := N3.cell 1
      have n2 := N3.cell 2
      have n3 := N3.cell 3
      have s0 := S3.cell 0
      have s1 := S3.cell 1
      go_region_held3 (fun w' => w'.cell? ⟨w.heap.size, 0, none⟩ = some (.int .i64 p) ∧ w'.cell? ⟨w.heap.size, 1, none⟩ = some (.int .i64 a) ∧ w'.cell? ⟨w.heap.size, 2, none⟩ = some (.int .i64 u) ∧ w'.cell? ⟨w.heap.size, 3, none⟩ = some (.int .i64 t) ∧ w'.cell? ⟨w2.heap.size, 0, none⟩ = some (.int .i64 P) ∧ w'.cell? ⟨w2.heap.size, 1, none⟩ = some (.int .i64 T))
        (first | exact ⟨n0, n1, n2, n3, s0, s1⟩ | (refine six (t := 23) (t' := 26) ?_ ?_ <;> (repeat (first | with_reducible assumption | with_reducible exact At.new _ _ _ | with_reducible refine At.drew ?_ | with_reducible refine At.alloc ?_ _ | (with_reducible refine At.far ?_ ?_ _; rotate_left; ((try have q4 := hb4.size); (try have q5 := hb5.size); (try have q6 := hb6.size); (try simp at q4); (try simp at q5); (try simp at q6); simp; omega)) | (with_reducible refine At.step ?_ (by with_reducible assumption))))))
        (first
          | (go_at_call 12; refine (active_any p a u t _).mono ?_; rintro e w4 ⟨rfl, hb4⟩; rw [hA.out]; (first | with_reducible have R4 := At.step (At.new _ 26 #[.int .i64 0, .int .i64 0]) hb4 | with_reducible have R4 := At.step (At.drew (At.new _ 26 #[.int .i64 0, .int .i64 0])) hb4 | skip))
          | (go_at_call 13; refine (use_any p a u t _ u0 u1).mono ?_; rintro e w5 ⟨rfl, hb5⟩; rw [hU.out]; (first | have R5 := R4.step hb5 | with_reducible have R5 := At.step (At.new _ 26 #[.int .i64 0, .int .i64 0]) hb5 | with_reducible have R5 := At.step (At.drew (At.new _ 26 #[.int .i64 0, .int .i64 0])) hb5 | skip))
          | (go_at_call 11; refine (next_any _ _ _ _ _ _).mono ?_; rintro e w6 ⟨rfl, hb6⟩; rw [hR.out]; (first | have R6 := R5.step hb6 | with_reducible have R6 := At.step (At.new _ 26 #[.int .i64 0, .int .i64 0]) hb6 | with_reducible have R6 := At.step (At.drew (At.new _ 26 #[.int .i64 0, .int .i64 0])) hb6 | skip); (first | (have rr0 := R6.cell 0; have rr1 := R6.cell 1; have rf0 := R6.free 0; have rf1 := R6.free 1; try simp only [World.size_drew] at rr0 rr1 rf0 rf1) | skip)))
      all_goals
        go_wp2_with fail
        go_meet
        refine ⟨_, rfl, rfl, l0, ?_, ?_, ?_, ?_, ?_⟩
        · ((try have q4 := hb4.size); (try have q5 := hb5.size); (try have q6 := hb6.size); (try simp at q4); (try simp at q5); (try simp at q6); simp; omega)
        · (repeat (first | with_reducible assumption | with_reducible exact At.new _ _ _ | with_reducible refine At.drew ?_ | with_reducible refine At.alloc ?_ _ | (with_reducible refine At.far ?_ ?_ _; rotate_left; ((try have q4 := hb4.size); (try have q5 := hb5.size); (try have q6 := hb6.size); (try simp at q4); (try simp at q5); (try simp at q6); simp; omega)) | (with_reducible refine At.step ?_ (by with_reducible assumption))))
        · (repeat (first | with_reducible assumption | with_reducible exact At.new _ _ _ | with_reducible refine At.drew ?_ | with_reducible refine At.alloc ?_ _ | (with_reducible refine At.far ?_ ?_ _; rotate_left; ((try have q4 := hb4.size); (try have q5 := hb5.size); (try have q6 := hb6.size); (try simp at q4); (try simp at q5); (try simp at q6); simp; omega)) | (with_reducible refine At.step ?_ (by with_reducible assumption))))
        · first | exact At.put2 (by repeat (first | with_reducible assumption | with_reducible exact At.new _ _ _ | with_reducible refine At.drew ?_ | with_reducible refine At.alloc ?_ _ | (with_reducible refine At.far ?_ ?_ _; rotate_left; ((try have q4 := hb4.size); (try have q5 := hb5.size); (try have q6 := hb6.size); (try simp at q4); (try simp at q5); (try simp at q6); simp; omega)) | (with_reducible refine At.step ?_ (by with_reducible assumption)))) | (with_reducible exact At.new _ _ _)
        · (repeat (first | with_reducible assumption | with_reducible refine Below.drew ?_ | (with_reducible refine Below.alloc ?_ ?_ _; rotate_left; ((try have q4 := hb4.size); (try have q5 := hb5.size); (try have q6 := hb6.size); (try simp at q4); (try simp at q5); (try simp at q6); simp; omega)) | (with_reducible refine Below.setCell ?_ ?_ _; rotate_left; ((try have q4 := hb4.size); (try have q5 := hb5.size); (try have q6 := hb6.size); (try simp at q4); (try simp at q5); (try simp at q6); simp; omega)) | (with_reducible refine below_step ?_ (by with_reducible assumption))))
    case rest =>
      obtain ⟨b7, rfl, rfl, l2, l7, N7, S7, R7, B7⟩ := hcut
      have n0 := N7.cell 0
      have n1 := N7.cell 1
      have n2 := N7.cell 2
      have n3 := N7.cell 3
      have s0 := S7.cell 0
      have s1 := S7.cell 1
      have r0 := R7.cell 0
      have r1 := R7.cell 1
      have hPU := prod_bd P U 1073741823 10000 ⟨bP.1, bP.2⟩ ⟨by omega, bU.2⟩
      obtain ⟨hPU0, hPU1⟩ := hPU
      go_wp2_with fail
      go_region_held3 (fun w' => w'.cell? ⟨w.heap.size, 0, none⟩ = some (.int .i64 p) ∧ w'.cell? ⟨w.heap.size, 1, none⟩ = some (.int .i64 a) ∧ w'.cell? ⟨w.heap.size, 2, none⟩ = some (.int .i64 u) ∧ w'.cell? ⟨w.heap.size, 3, none⟩ = some (.int .i64 t) ∧ w'.cell? ⟨w2.heap.size, 0, none⟩ = some (.int .i64 P))
        (first | exact ⟨n0, n1, n2, n3, s0⟩ | exact ⟨N8.cell 0, N8.cell 1, N8.cell 2, N8.cell 3, S8.cell 0⟩ | exact ⟨N9.cell 0, N9.cell 1, N9.cell 2, N9.cell 3, S9.cell 0⟩ | go_keep)
        (first
          | (go_at_call 12; refine (active_any p a u t _).mono ?_; rintro e w8 ⟨rfl, hb8⟩; rw [hA.out]; have N8 := N7.drew.below hb8 N7.lt; have S8 := S7.drew.below hb8 S7.lt; have R8 := R7.drew.below hb8 R7.lt; have B8 := below_step B7.drew hb8)
          | (go_at_call 13; refine (use_any p a u t _ u0 u1).mono ?_; rintro e w9 ⟨rfl, hb9⟩; rw [hU.out]; have N9 := N8.below hb9 N8.lt; have S9 := S8.below hb9 S8.lt; have R9 := R8.below hb9 R8.lt; have B9 := below_step B8 hb9))
      clear n0 n1 n2 n3 s0 s1 r0 r1 N7 N8 S7 S8 R7 R8 B7 B8 hb8 hb9
      have s0 := S9.cell 0
      have s1 := S9.cell 1
      have r0 := R9.cell 0
      have r1 := R9.cell 1
      by_cases hen : P * U ≤ A * 10000
      · go_wp2_with fail
        go_ret
        exact ⟨rfl, B9⟩
      · go_wp2_with fail
        go_ret
        exact ⟨rfl, B9⟩

theorem own : ownKnob Try.prog.godebug = none := by kernel_rfl
theorem laidOut : laidOutB Try.prog = true := by kernel_rfl

set_option maxRecDepth 100000 in
theorem lifted (os : Os) (started : os.Started) (H : Type) (enc : TypeId × Value → H) :
    ReturnsInHanded {} Try.checked os 3 .any (Rows.activityFallsSpec.pre6 enc Try.prog Try.f3 Rows.activityFallsRow.domain false) (Rows.activityFallsSpec.post enc Try.prog Try.f3 false true false false) := by
  refine returnsInHanded_of_change (C := Try.checked) own started (by kernel_rfl) Try.func3
    (ChangeSpec.witness6 (enc := enc) (C := Try.checked) false ⟨#[], #[.agg #[.int .i64 0, .int .i64 0, .int .i64 0, .int .i64 0], .bool false], []⟩ 8 (by kernel_rfl) (by kernel_rfl) (by kernel_rfl) (by kernel_rfl)) ?_
  intro W base args ds gs before hval0 hW hcnd hsz
  have hval : ∀ (j : Nat) t v, Try.f3.params[j]? = some t → args[j]? = some v → Value.okWide Try.prog W .any base t v := hval0
  have hW' := hW
  obtain ⟨p, q, hA0, hV, rfl, hfz, hnd⟩ := hW
  have hA : DataW.TrodAll enc Try.prog W 0 (fun _ => true) true Try.f3.params.toList args.toList ds p := hA0
  rw [Try.params3] at hA hval
  obtain ⟨v0, vs0, d0, ds0, p0, q0, hargs, rfl, rfl, h0, r0⟩ := trodAll_cons hA
  obtain ⟨v1, vs1, d1, ds1, p1, q1, rfl, rfl, rfl, h1, r1⟩ := trodAll_cons r0
  obtain ⟨rfl, rfl, rfl⟩ := trodAll_nil r1
  obtain rfl : args = #[v0, v1] := by cases args; simp_all
  obtain ⟨rfl, rfl⟩ := trodVars_none hV
  obtain ⟨p, a, u, t, rfl, hp, ha, hu, ht⟩ := open_num Try.underlying23 (by kernel_rfl) (by kernel_rfl) rfl rfl rfl rfl Try.underlying2 Try.underlying3 (hval 0 23 v0 rfl rfl) h0
  obtain ⟨a1, rfl, rfl, rfl⟩ := open_bool Try.underlying4 (hval 1 4 v1 rfl rfl) h1
  refine (walk p a u t a1 W hp ha hu ht).mono fun e W' ⟨he, hg⟩ => ?_
  subst he
  exact ⟨_, rfl, post_law laidOut (by kernel_rfl) rfl Try.underlying4 hW' rfl rfl hg⟩

theorem over : Rows.activityFallsRow.holds Try.pinned (OpenSpec.ofChange Rows.activityFallsSpec) :=
  OpenClaim.holds_of_wide 3 Try.f3 rfl rfl rfl rfl rfl rfl rfl ⟨rfl, rfl, rfl, rfl, rfl⟩ rfl rfl rfl rfl rfl (by kernel_rfl) Try.func3 (by kernel_rfl)
    (of_decide_eq_true (by kernel_rfl)) (by unfold Func.isWrapper; first | (rw [if_pos (by decide +kernel)]; kernel_rfl) | (rw [if_neg (by decide +kernel)]; exact ⟨rfl, rfl⟩))
    (fun os started H enc _ => lifted os started H enc)

/-- THE STATEMENT. -/
theorem proved : Rows.ActivityFallsSaid := over
#print axioms proved
end Go.Proofs.Ytidhleeoeapjmaa.activityFalls
