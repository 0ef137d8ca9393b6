/- 'vendue/venduelaw17.ActivityRooms' answers true at every input, and leaves its arguments as they were: the given statement Rows.ActivityRoomsSaid. No condition. -/
import Derived.Test.YtidhleeoeapjmaaRows
import Derived.Test.YtidhleeoeapjmaaMem
import Derived.WalkKit
import Derived.ProofKit
import Derived.OpenShut
import Derived.Deep.RegionHeld3
import Derived.Deep.DeepCutAuto
import Derived.Test.YtidhleeoeapjmaaActLaw
import Derived.Test.YtidhleeoeapjmaaOpen
namespace Go.Proofs.Ytidhleeoeapjmaa.activityRooms
open Go.ChangeShapes Go.WideShapes Go.ChangeAt Go.RowKit
open Go.ChangeMaps (open_string shut_string)
set_option linter.unusedVariables false

theorem mask_bd (n : Int) (m : Nat) (hm : m < 9223372036854775808) : 0 ≤ bits BinOp.and IntKind.i64 n (m : Int) ∧ bits BinOp.and IntKind.i64 n (m : Int) ≤ m := by
  show 0 ≤ IntKind.i64.wrap ((BitVec.ofInt 64 n &&& BitVec.ofInt 64 (m : Int)).toNat : Int) ∧ IntKind.i64.wrap ((BitVec.ofInt 64 n &&& BitVec.ofInt 64 (m : Int)).toNat : Int) ≤ m
  rw [BitVec.toNat_and]
  have e : (BitVec.ofInt 64 (m : Int)).toNat = m := by
    rw [BitVec.ofInt_natCast, BitVec.toNat_ofNat]
    exact Nat.mod_eq_of_lt (by omega)
  have h : (BitVec.ofInt 64 n).toNat &&& (BitVec.ofInt 64 (m : Int)).toNat ≤ m := by
    rw [e]
    exact Nat.and_le_right
  generalize (BitVec.ofInt 64 n).toNat &&& (BitVec.ofInt 64 (m : Int)).toNat = x at *
  rw [IntKind.wrap_i64]
  omega
theorem rooms (P T A : Int) (hP : 0 ≤ P ∧ P ≤ 1073741823) (hT : 0 ≤ T ∧ T ≤ 5) (hA : 0 ≤ A ∧ A ≤ 1073741823) : roomV P T A = if A ≤ P then P - A else 0 := by
  have hc : checkB P T = true := check_mk (by omega)
  have hr : rightB A 1 = true := right_mk (by omega)
  unfold roomV
  rw [if_pos ⟨hc, hr⟩]
  split <;> split <;> omega

set_option maxRecDepth 100000 in
set_option maxHeartbeats 4000000 in
theorem walk (p a u t a1 : Int) (w : World) (hp : (Lit.int .i64 p).wf = true) (ha : (Lit.int .i64 a).wf = true) (hu : (Lit.int .i64 u).wf = true) (ht : (Lit.int .i64 t).wf = true) (hm : (Lit.int .i64 a1).wf = true) :
    Calls Try.prog 7 #[.agg #[.int .i64 p, .int .i64 a, .int .i64 u, .int .i64 t], .int .i64 a1] w fun e w' => e = .returned (.bool true) ∧ Below w.heap.size w w' := by
  obtain ⟨u0, u1⟩ := bd_i64 _ hu
  have bP := ptsZ_bd p
  have bA := ptsZ_bd a
  have bT := waitZ_bd t
  have bU := useZ_bd u
  obtain ⟨P, hP'⟩ : ∃ P, P = ptsZ p := ⟨_, rfl⟩
  obtain ⟨T, hT'⟩ : ∃ T, T = waitZ t := ⟨_, rfl⟩
  obtain ⟨A, hA'⟩ : ∃ A, A = ptsZ a := ⟨_, rfl⟩
  obtain ⟨U, hU'⟩ : ∃ U, U = useZ u := ⟨_, rfl⟩
  rw [← hP'] at bP
  rw [← hT'] at bT
  rw [← hA'] at bA
  rw [← hU'] at bU
  have hP := Lib.hid hP'.symm
  have hT := Lib.hid hT'.symm
  have hA := Lib.hid hA'.symm
  have hU := Lib.hid hU'.symm
  clear hP' hT' hA' hU' hp ha hu ht
  have hc := Lib.hid (show checkB P T = true from check_mk (by omega))
  go_enter Try.func7, Try.ntmps7
  go_wp2_with fail
  refine (awake_any _).mono ?_; rintro e w1 ⟨rfl, hb1⟩
  have B1 := below_step ((Below.refl _ _).alloc (Nat.le_refl _) _) hb1
  have N1 := (At.new w 23 #[.int .i64 p, .int .i64 a, .int .i64 u, .int .i64 t]).below hb1 (by simp)
  clear hb1
  have n0 := N1.cell 0
  have n1 := N1.cell 1
  have n2 := N1.cell 2
  have n3 := N1.cell 3
  go_wp2_with fail
  clear n0 n1 n2 n3
  refine (part_any p a u t _).mono ?_; rintro e w2 ⟨rfl, hb2⟩
  rw [hP.out, hT.out]
  have B2 := below_step B1 hb2
  have N2 := N1.below hb2 N1.lt
  clear N1 B1 hb2
  have n0 := N2.cell 0
  have n1 := N2.cell 1
  have n2 := N2.cell 2
  have n3 := N2.cell 3
  have l0 := N2.lt
  go_wp2_with fail
  refine (active_any p a u t _).mono ?_; rintro e w4 ⟨rfl, hb4⟩
  rw [hA.out]
  have N4 := (N2.alloc (.cells #[.int .i64 P, .int .i64 T] 26)).step hb4
  have S4 := (At.new w2 26 #[.int .i64 P, .int .i64 T]).step hb4
  have B4 := below_step (B2.alloc B2.size _) hb4
  clear n0 n1 n2 n3 hb4 N2 B2
  have m1 : 0 ≤ bits BinOp.and IntKind.i64 a1 1023 ∧ bits BinOp.and IntKind.i64 a1 1023 ≤ 1023 := mask_bd a1 1023 (by omega)
  have m2 : 0 ≤ bits BinOp.and IntKind.i64 (A + bits BinOp.and IntKind.i64 a1 1023) 1073741823 ∧ bits BinOp.and IntKind.i64 (A + bits BinOp.and IntKind.i64 a1 1023) 1073741823 ≤ 1073741823 := mask_bd _ 1073741823 (by omega)
  have s0 := S4.cell 0
  have s1 := S4.cell 1
  go_wp2_with fail
  generalize bits BinOp.and IntKind.i64 (A + bits BinOp.and IntKind.i64 a1 1023) 1073741823 = B at *
  generalize bits BinOp.and IntKind.i64 a1 1023 = M at *
  obtain ⟨x, hx, X1'⟩ : ∃ x, roomV P T A = x ∧ ((A ≤ P → x = P - A) ∧ (¬ A ≤ P → x = 0)) := ⟨_, rfl, fun h => by rw [rooms P T A bP bT bA, if_pos h], fun h => by rw [rooms P T A bP bT bA, if_neg h]⟩
  obtain ⟨y, hy, Y1'⟩ : ∃ y, roomV P T B = y ∧ ((B ≤ P → y = P - B) ∧ (¬ B ≤ P → y = 0)) := ⟨_, rfl, fun h => by rw [rooms P T B bP bT m2, if_pos h], fun h => by rw [rooms P T B bP bT m2, if_neg h]⟩
  have X1 := Lib.hid X1'
  have Y1 := Lib.hid Y1'
  clear X1' Y1'
  refine (room_any P T A _).mono ?_; rintro e w5 ⟨rfl, hb5⟩
  rw [hx]
  have HY := Lib.hid hy
  clear hx hy
  have S5 := S4.step hb5
  have B5 := below_step B4 hb5
  clear s0 s1 S4 B4 hb5
  have s0 := S5.cell 0
  have s1 := S5.cell 1
  go_wp2_with fail
  refine (room_any P T B _).mono ?_; rintro e w6 ⟨rfl, hb6⟩
  rw [HY.out]
  have S6 := S5.step hb6
  have B6 := below_step B5 hb6
  clear s0 s1 S5 B5 hb6
  have s0 := S6.cell 0
  have s1 := S6.cell 1
  by_cases c1 : A ≤ P
  all_goals
    have X2 := X1.out
    have Y2 := Y1.out
    have x0 : 0 ≤ x := by omega
    have x1 : x ≤ P := by omega
    by_cases c2 : B < A
  · have e1 : A + x = P := by have := X2.1 (by omega); omega
    have E1 : (A + x == P) = true := by rw [e1]; exact beq_self_eq_true P
    have c3 : ¬ P < A := by omega
    clear X1 Y1 X2 Y2 e1
    go_wp2_with fail
    refine (check_any P T _).mono ?_; rintro e w7 ⟨rfl, rfl⟩
    rw [hc.out]
    go_wp2_with fail
    go_ret
    exact ⟨rfl, B6.alloc B6.size _⟩
  · have e1 : A + x = P := by have := X2.1 (by omega); omega
    have E1 : (A + x == P) = true := by rw [e1]; exact beq_self_eq_true P
    have c3 : ¬ P < A := by omega
    have c4 : y ≤ x := by
      by_cases h : B ≤ P
      · have := Y2.1 (by omega); have := X2.1 (by omega); omega
      · have := Y2.2 (by omega); omega
    clear X1 Y1 X2 Y2 e1
    go_wp2_with fail
    refine (check_any P T _).mono ?_; rintro e w7 ⟨rfl, rfl⟩
    rw [hc.out]
    go_wp2_with fail
    go_ret
    exact ⟨rfl, B6.alloc B6.size _⟩
  · have E1 : (x == 0) = true := by rw [X2.2 (by omega)]; rfl
    have c3 : P < A := by omega
    clear X1 Y1 X2 Y2
    go_wp2_with fail
    refine (check_any P T _).mono ?_; rintro e w7 ⟨rfl, rfl⟩
    rw [hc.out]
    go_wp2_with fail
    go_ret
    exact ⟨rfl, B6.alloc B6.size _⟩
  · have E1 : (x == 0) = true := by rw [X2.2 (by omega)]; rfl
    have c3 : P < A := by omega
    have c4 : y ≤ x := by
      by_cases h : B ≤ P
      · omega
      · have := Y2.2 (by omega); omega
    clear X1 Y1 X2 Y2
    go_wp2_with fail
    refine (check_any P T _).mono ?_; rintro e w7 ⟨rfl, rfl⟩
    rw [hc.out]
    go_wp2_with fail
    go_ret
    exact ⟨rfl, B6.alloc B6.size _⟩

theorem own : ownKnob Try.prog.godebug = none := by kernel_rfl
theorem laidOut : laidOutB Try.prog = true := by kernel_rfl

set_option maxRecDepth 100000 in
theorem lifted (os : Os) (started : os.Started) (H : Type) (enc : TypeId × Value → H) :
    ReturnsInHanded {} Try.checked os 7 .any (Rows.activityRoomsSpec.pre6 enc Try.prog Try.f7 Rows.activityRoomsRow.domain false) (Rows.activityRoomsSpec.post enc Try.prog Try.f7 false true false false) := by
  refine returnsInHanded_of_change (C := Try.checked) own started (by kernel_rfl) Try.func7
    (ChangeSpec.witness6 (enc := enc) (C := Try.checked) false ⟨#[], #[.agg #[.int .i64 0, .int .i64 0, .int .i64 0, .int .i64 0], .int .i64 0], []⟩ 8 (by kernel_rfl) (by kernel_rfl) (by kernel_rfl) (by kernel_rfl)) ?_
  intro W base args ds gs before hval0 hW hcnd hsz
  have hval : ∀ (j : Nat) t v, Try.f7.params[j]? = some t → args[j]? = some v → Value.okWide Try.prog W .any base t v := hval0
  have hW' := hW
  obtain ⟨p, q, hA0, hV, rfl, hfz, hnd⟩ := hW
  have hA : DataW.TrodAll enc Try.prog W 0 (fun _ => true) true Try.f7.params.toList args.toList ds p := hA0
  rw [Try.params7] at hA hval
  obtain ⟨v0, vs0, d0, ds0, p0, q0, hargs, rfl, rfl, h0, r0⟩ := trodAll_cons hA
  obtain ⟨v1, vs1, d1, ds1, p1, q1, rfl, rfl, rfl, h1, r1⟩ := trodAll_cons r0
  obtain ⟨rfl, rfl, rfl⟩ := trodAll_nil r1
  obtain rfl : args = #[v0, v1] := by cases args; simp_all
  obtain ⟨rfl, rfl⟩ := trodVars_none hV
  obtain ⟨p, a, u, t, rfl, hp, ha, hu, ht⟩ := open_num Try.underlying23 (by kernel_rfl) (by kernel_rfl) rfl rfl rfl rfl Try.underlying2 Try.underlying3 (hval 0 23 v0 rfl rfl) h0
  obtain ⟨a1, rfl, rfl, rfl, w1⟩ := open_int Try.underlying2 (hval 1 2 v1 rfl rfl) h1
  refine (walk p a u t a1 W hp ha hu ht w1).mono fun e W' ⟨he, hg⟩ => ?_
  subst he
  exact ⟨_, rfl, post_law laidOut (by kernel_rfl) rfl Try.underlying4 hW' rfl rfl hg⟩

theorem over : Rows.activityRoomsRow.holds Try.pinned (OpenSpec.ofChange Rows.activityRoomsSpec) :=
  OpenClaim.holds_of_wide 7 Try.f7 rfl rfl rfl rfl rfl rfl rfl ⟨rfl, rfl, rfl, rfl, rfl⟩ rfl rfl rfl rfl rfl (by kernel_rfl) Try.func7 (by kernel_rfl)
    (of_decide_eq_true (by kernel_rfl)) (by unfold Func.isWrapper; first | (rw [if_pos (by decide +kernel)]; kernel_rfl) | (rw [if_neg (by decide +kernel)]; exact ⟨rfl, rfl⟩))
    (fun os started H enc _ => lifted os started H enc)

/-- THE STATEMENT. -/
theorem proved : Rows.ActivityRoomsSaid := over
#print axioms proved
end Go.Proofs.Ytidhleeoeapjmaa.activityRooms
