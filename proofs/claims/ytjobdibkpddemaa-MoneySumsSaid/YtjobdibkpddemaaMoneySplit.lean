/- The contracts of package money's Split and of the reference's: both give the same parts, in a row of their own; memory that lay before lies as it lay. -/
import Derived.Test.YtjobdibkpddemaaMoney
import Derived.Test.YtjobdibkpddemaaMoneyBits
import Derived.Deep.QuietTactic
import Derived.BigQuiet
import Derived.Deep.OwnRows
import Derived.WalkMore
import Derived.Outline
namespace Go.Proofs.Ytjobdibkpddemaa
open Go.RowKit
set_option linter.unusedVariables false

theorem info_i64 : (Try.prog.info? 2).map (fun i => (i.zero, i.size, i.bytes)) = some (some (.int .i64 0), 1, 8) := by kernel_rfl

/-- The parts of a sum; none where there may be none. -/
def partsL (a : Int) (n : Nat) : List Int := (List.range n).map fun i : Nat => partZ a (n : Int) (i : Int)
def splitL (a n : Int) : List Int := if a < 0 ∨ n < 1 ∨ 1000 < n then [] else partsL a n.toNat
def splitE (a n : Int) : Int := if a < 0 ∨ n < 1 ∨ 1000 < n then 1 else 0
theorem partsL_len (a : Int) (n : Nat) : (partsL a n).length = n := by unfold partsL; simp
theorem partsL_get (a : Int) (n i : Nat) (h : i < n) : (partsL a n).getD i 0 = partZ a n i := by
  unfold partsL
  simp [List.getD_eq_getElem?_getD, h]
theorem splitL_len (a n : Int) : (splitL a n).length ≤ 1000 := by
  unfold splitL
  split
  · simp
  · rw [partsL_len]; omega
theorem splitL_in (a n : Int) (a1 : a ≤ 9223372036854775807) : In64 (splitL a n) := by
  intro i hi
  unfold splitL at hi ⊢
  split
  · simp
  · rename_i h
    rw [if_neg h, partsL_len] at hi
    rw [partsL_get a _ i hi]
    have := part_bd a (n.toNat : Nat) i (by omega) (by omega) (by omega)
    omega

/-- What Split answers: a slice that holds just these numbers, and an error's number. -/
def SplitPost (zs : List Int) (er : Int) (w : World) (e : Ending) (w' : World) : Prop :=
  ∃ (p : Option Addr) (cap : Nat), e = .returned (.tuple #[.slice p zs.length cap, .int .i64 er]) ∧ Row64 w' p zs ∧ Below w.heap.size w w'

theorem row_of_rowIs {w : World} {b n : Nat} {f : Nat → Int} {zs : List Int} (h : w.rowIs b 2 n (fun j => .int .i64 (f j))) (hl : zs.length = n) (hf : ∀ j, j < n → f j = zs.getD j 0) : Row64 w (some ⟨b, 0, none⟩) zs :=
  fun _ => ⟨b, 0, rfl, h.lt, fun i hi => by rw [Nat.zero_add, h.cell (by omega), hf i (by omega)]⟩
theorem rowIs_below {w w' : World} {B b t n : Nat} {f : Nat → Value} (h : w.rowIs b t n f) (hb : Below B w w') (hlt : b < B) : w'.rowIs b t n f := h.of_block (hb.block b hlt)
theorem rowIs_drewN {w : World} {b t n : Nat} {f : Nat → Value} (h : w.rowIs b t n f) (k : Nat) : (w.drewN k).rowIs b t n f := h

def upTo (a : Int) (n k j : Nat) : Int := if j < k then partZ a n j else 0

set_option maxHeartbeats 2000000 in
theorem split_any (a n : Int) (w : World) (a0 : -9223372036854775808 ≤ a) (a1 : a ≤ 9223372036854775807) :
    Calls Try.prog 13 #[.int .i64 a, .int .i64 n] w fun e w' => SplitPost (splitL a n) (splitE a n) w e w' := by
  by_cases h : a < 0 ∨ n < 1 ∨ 1000 < n
  · have HV := Lib.hid (show splitL a n = [] ∧ splitE a n = 1 from ⟨by unfold splitL; rw [if_pos h], by unfold splitE; rw [if_pos h]⟩)
    have hfin : ∀ w', Below w.heap.size w w' → SplitPost (splitL a n) (splitE a n) w (.returned (.tuple #[.slice none 0 0, .int .i64 1])) w' := fun w' hb => by
      rw [HV.out.1, HV.out.2]
      exact ⟨none, 0, rfl, fun hl => absurd hl (by simp), hb⟩
    have HF := Lib.hid hfin
    clear hfin
    have h' := h
    clear h
    by_cases h1 : a < 0
    · clear h'
      go_enter Try.func13, Try.ntmps13
      go_wp2_with fail
      go_step3
      go_wp2_with fail
      go_ret2
      exact HF.out _ (Below.refl _ _)
    by_cases h2 : n < 1
    · clear h'
      go_enter Try.func13, Try.ntmps13
      go_wp2_with fail
      go_step3
      go_wp2_with fail
      go_ret2
      exact HF.out _ (Below.refl _ _)
    have h3 : 1000 < n := by omega
    clear h'
    go_enter Try.func13, Try.ntmps13
    go_wp2_with fail
    go_step3
    go_wp2_with fail
    go_ret2
    exact HF.out _ (Below.refl _ _)
  · obtain ⟨c, hc⟩ : ∃ c : Nat, n = c := ⟨n.toNat, by omega⟩
    have HV := Lib.hid (show splitL a n = partsL a c ∧ splitE a n = 0 from ⟨by unfold splitL; rw [if_neg h, hc]; rfl, by unfold splitE; rw [if_neg h]⟩)
    subst hc
    obtain ⟨q0, q1, q2⟩ : 0 ≤ a ∧ 1 ≤ c ∧ c ≤ 1000 := by omega
    clear h
    have hmk : ∀ W : World, _ := fun W => run_make_row' (P := Try.prog) 27 2 (.int .i64 0) 8 Try.underlying27 info_i64 rfl .i64 .i64 c (by omega) (by omega) W
    have hd0 : 0 ≤ a / (c : Int) := Int.ediv_nonneg q0 (by omega)
    have hd1 : a / (c : Int) ≤ a := Int.ediv_le_self _ q0
    have hm0 := Int.emod_nonneg a (show (c : Int) ≠ 0 by omega)
    have hm1 := Int.emod_lt_of_pos a (show 0 < (c : Int) by omega)
    have hd2 : 0 < a % (c : Int) → a / (c : Int) + 1 ≤ a := fun hp => by
      have h := (ceil_le a c q0 (by omega)).2
      unfold ceilZ at h
      rw [if_neg (by omega)] at h
      exact h
    obtain ⟨D, hD⟩ : ∃ D, D = a / (c : Int) := ⟨_, rfl⟩
    obtain ⟨M, hM⟩ : ∃ M, M = a % (c : Int) := ⟨_, rfl⟩
    rw [← hD, ← hM] at hd2
    have HD2 := Lib.hid hd2
    clear hd2
    go_enter Try.func13, Try.ntmps13
    go_wp2_with fail
    go_step3
    go_wp2_with fail
    go_quiet (fail)
    go_wp2_with fail
    go_step3
    go_wp2_with fail
    rw [← hD, ← hM]
    rw [← hD] at hd0 hd1
    rw [← hM] at hm0 hm1
    have HP := Lib.hid (show ∀ j : Nat, partZ a c j = D + if (j : Int) < M then 1 else 0 from fun j => by unfold partZ; rw [← hD, ← hM])
    clear hmk hD hM
    obtain ⟨W1, hW1⟩ : ∃ W1, W1 = (w.alloc (.cells (madeCells #[.int .i64 0] c) 2)) := ⟨_, rfl⟩
    have hR1 : W1.rowIs w.heap.size 2 c (fun j => .int .i64 (upTo a c 0 j)) := by
      rw [hW1]
      exact (World.rowIs_made w (.int .i64 0) c 2).congr fun j _ => by unfold upTo; rw [if_neg (by omega)]
    have hB1 : Below w.heap.size w W1 := by rw [hW1]; exact (Below.refl _ _).alloc (Nat.le_refl _) _
    rw [← hW1]
    clear hW1
    have hR2 : (W1.drewN nq).rowIs w.heap.size 2 c (fun j => .int .i64 (upTo a c 0 j)) := hR1
    have hB2 : Below w.heap.size w (W1.drewN nq) := below_drewN hB1 _
    obtain ⟨W2, hW2⟩ : ∃ W2, W2 = W1.drewN nq := ⟨_, rfl⟩
    rw [← hW2] at hR2 hB2 ⊢
    clear hW2 hR1 hB1 W1
    go_loopw [30] (fun i wr => ∃ k : Nat, i = .int .i64 k ∧ k ≤ c ∧ wr.rowIs w.heap.size 2 c (fun j => .int .i64 (upTo a c k j)) ∧ Below w.heap.size w wr) (fun i _ => c - (intOf i).toNat)
    case atStart => exact ⟨0, rfl, by omega, hR2, hB2⟩
    case round =>
      obtain ⟨k, rfl, hk, hr, hb⟩ := hrel
      clear hR2 hB2
      by_cases hlt : k < c
      · have hc := hr.cell hlt
        have hf := hr.frozen k
        have e0 : upTo a c k k = 0 := by unfold upTo; rw [if_neg (by omega)]
        rw [e0] at hc
        clear e0
        have hpk := HP.out k
        have k0 : (k : Int) < (c : Int) := by omega
        by_cases hm : (k : Int) < M
        · rw [if_pos hm] at hpk
          have HK := Lib.hid hpk
          have m2 : ¬ M ≤ (k : Int) := by omega
          have m3 : D + 1 ≤ a := HD2.out (by omega)
          clear hpk
          go_wp2_with fail
          go_roundw
          case rel => exact ⟨k + 1, by go_num, by omega, ((hr.set k (.int .i64 D)).set k (.int .i64 (D + 1))).congr (fun j hj => by
            unfold upTo
            by_cases e : j = k
            · rw [if_pos e, if_pos (by omega), e, HK.out]
            · rw [if_neg e, if_neg e]
              by_cases h2 : j < k
              · rw [if_pos h2, if_pos (by omega)]
              · rw [if_neg h2, if_neg (by omega)]), (hb.setCell (Nat.le_refl _) _).setCell (Nat.le_refl _) _⟩
          case measure => simp [intOf]; omega
        · rw [if_neg hm] at hpk
          have HK := Lib.hid hpk
          have m2 : M ≤ (k : Int) := by omega
          clear hpk
          go_wp2_with fail
          go_roundw
          case rel => exact ⟨k + 1, by go_num, by omega, (hr.set k (.int .i64 D)).congr (fun j hj => by
            unfold upTo
            by_cases e : j = k
            · rw [if_pos e, if_pos (by omega), e, HK.out, Int.add_zero]
            · rw [if_neg e]
              by_cases h2 : j < k
              · rw [if_pos h2, if_pos (by omega)]
              · rw [if_neg h2, if_neg (by omega)]), hb.setCell (Nat.le_refl _) _⟩
          case measure => simp [intOf]; omega
      · obtain rfl : k = c := by omega
        have hfin : SplitPost (splitL a k) (splitE a k) w (.returned (.tuple #[.slice (some ⟨w.heap.size, 0, none⟩) k k, .int .i64 0])) wr := by
          rw [HV.out.1, HV.out.2]
          exact ⟨some ⟨w.heap.size, 0, none⟩, k, by rw [partsL_len], row_of_rowIs hr (partsL_len a k) (fun j hj => by unfold upTo; rw [if_pos hj, partsL_get a k j hj]), hb⟩
        have HF := Lib.hid hfin
        clear hfin
        go_wp2_with fail
        try rw [Exit.noGoto_ret]
        go_ret2
        exact HF.out

/-! ### The reference's Split: a row that grows -/
theorem row_of_own {w : World} {base : Nat} {v : Value} {zs : List Int} (h : w.ownsRow base 2 1 v zs.length (zs.map (Value.int .i64))) : ∃ (a : Option Addr) (cap : Nat), v = .slice a zs.length cap ∧ Row64 w a zs := by
  rcases h.2 with ⟨rfl, h0⟩ | ⟨g, cap, cur, rfl, hbg, hg, hnc, hcm, hcs, htake⟩
  · have e : zs = [] := by simpa using h0
    subst e
    exact ⟨none, 0, rfl, fun hl => absurd hl (by simp)⟩
  · refine ⟨some ⟨g, 0, none⟩, cap, rfl, fun hl => ⟨g, 0, rfl, (h.lt g rfl).2, fun i hi => ?_⟩⟩
    have := h.cells (g := g) rfl i (.int .i64 (zs.getD i 0)) (by simp [List.getD_eq_getElem?_getD, List.getElem?_eq_getElem hi])
    by_cases h0 : i = 0
    · subst h0; simpa [Addr.add] using this
    · simpa [Addr.add, h0] using this
theorem below_append {B : Nat} {w wr w1 : World} {v : Value} {n : Nat} {xs : List Value} {e : TypeId} {o : Obj} (hb : Below B w wr) (hB : B ≤ wr.heap.size) (hown : wr.ownsRow B e 1 v n xs) (hg : (wr.alloc o).grownBy w1 v.ownBlock) : Below B w w1 :=
  (hb.alloc hB o).grown hg (by simp; omega) (fun j hj => (hown.lt j hj).1)
theorem new_cell (w : World) (v : Value) (t : TypeId) : ∀ (j : Nat) (u : Value), [v][j]? = some u → (w.alloc (.cells #[v] t)).cell? ((⟨w.heap.size, 0, none⟩ : Addr).add j) = some u := by
  intro j u hj
  match j, hj with
  | 0, hj =>
    have e : v = u := by simpa using hj
    subst e
    simp [Addr.add]
theorem one_int (k : IntKind) (n : Int) : ∀ u ∈ [Value.int k n], u.oneCell' = true := by
  intro u hu
  have e : u = .int k n := by simpa using hu
  subst e
  rfl
theorem partsTo_succ (a : Int) (n k : Nat) : (List.range (k + 1)).map (fun i : Nat => partZ a (n : Int) (i : Int)) = (List.range k).map (fun i : Nat => partZ a (n : Int) (i : Int)) ++ [partZ a n k] := by
  rw [List.range_succ, List.map_append]
  rfl

set_option maxHeartbeats 2000000 in
theorem refSplit_any (a n : Int) (w : World) (a0 : -9223372036854775808 ≤ a) (a1 : a ≤ 9223372036854775807) :
    Calls Try.prog 18 #[.int .i64 a, .int .i64 n] w fun e w' => SplitPost (splitL a n) (splitE a n) w e w' := by
  by_cases h : a < 0 ∨ n < 1 ∨ 1000 < n
  · have HV := Lib.hid (show splitL a n = [] ∧ splitE a n = 1 from ⟨by unfold splitL; rw [if_pos h], by unfold splitE; rw [if_pos h]⟩)
    have hfin : ∀ w', Below w.heap.size w w' → SplitPost (splitL a n) (splitE a n) w (.returned (.tuple #[.slice none 0 0, .int .i64 1])) w' := fun w' hb => by
      rw [HV.out.1, HV.out.2]
      exact ⟨none, 0, rfl, fun hl => absurd hl (by simp), hb⟩
    have HF := Lib.hid hfin
    clear hfin
    have h' := h
    clear h
    by_cases h1 : a < 0
    · clear h'
      go_enter Try.func18, Try.ntmps18
      go_wp2_with fail
      go_ret2
      exact HF.out _ (Below.refl _ _)
    by_cases h2 : n < 1
    · clear h'
      go_enter Try.func18, Try.ntmps18
      go_wp2_with fail
      go_ret2
      exact HF.out _ (Below.refl _ _)
    have h3 : 1000 < n := by omega
    clear h'
    go_enter Try.func18, Try.ntmps18
    go_wp2_with fail
    go_ret2
    exact HF.out _ (Below.refl _ _)
  · obtain ⟨c, hc⟩ : ∃ c : Nat, n = c := ⟨n.toNat, by omega⟩
    have HV := Lib.hid (show splitL a n = partsL a c ∧ splitE a n = 0 from ⟨by unfold splitL; rw [if_neg h, hc]; rfl, by unfold splitE; rw [if_neg h]⟩)
    subst hc
    obtain ⟨q0, q1, q2⟩ : 0 ≤ a ∧ 1 ≤ c ∧ c ≤ 1000 := by omega
    clear h
    obtain ⟨i0, hi, hz0, hz1, hz2⟩ := info_parts info_i64
    go_enter Try.func18, Try.ntmps18
    go_wp2_with fail
    go_loopw [0, 6, 7] (fun x v i wr => ∃ (k : Nat) (A K : Int), i = .int .i64 K ∧ x = .int .i64 A ∧ k ≤ c ∧ K = (c : Int) - k ∧ 0 ≤ A ∧ A ≤ a ∧ Hid (∀ j : Nat, k < c → partZ A K j = partZ a c ((k : Int) + j)) ∧
      wr.ownsRow w.heap.size 2 1 v k (((List.range k).map (fun i : Nat => partZ a (c : Int) (i : Int))).map (Value.int .i64)) ∧ Below w.heap.size w wr) (fun _ _ i _ => (intOf i).toNat)
    case atStart => exact ⟨0, a, c, rfl, rfl, by omega, by omega, q0, Int.le_refl _, fun j _ => by simp, World.ownsRow_nil _ _ _ _, Below.refl _ _⟩
    case round =>
      obtain ⟨k, A, K, rfl, rfl, hk, hK, A0, A1, hP, hown, hb⟩ := hrel
      by_cases hlt : k < c
      · have k0 : 1 ≤ K := by omega
        have hP0 := hP.out 0 hlt
        rw [show ((0 : Nat) : Int) = 0 from rfl, Int.add_zero, ← ceil_part A K A0 k0] at hP0
        have hce := ceil_le A K A0 k0
        have hd0 : 0 ≤ A / K := Int.ediv_nonneg A0 (by omega)
        have hd1 : A / K ≤ A := Int.ediv_le_self _ A0
        have hm0 := Int.emod_nonneg A (show K ≠ 0 by omega)
        have hem := Int.emod_add_mul_ediv A K
        rw [Int.mul_comm] at hem
        have hmul : A / K * K ≤ A := by omega
        have hmul0 : 0 ≤ A / K * K := Int.mul_nonneg hd0 (by omega)
        have hsz := hb.size
        have HN := Lib.hid (show ∀ j : Nat, k + 1 < c → partZ (A - ceilZ A K) (K - 1) j = partZ a c ((k : Int) + 1 + j) from fun j hj => by
          rw [part_next A K j A0 (by omega) (by omega)]
          have h := hP.out (j + 1) hlt
          rw [show ((j + 1 : Nat) : Int) = (j : Int) + 1 by omega] at h
          rw [h]
          congr 1
          omega)
        have HC := Lib.hid hP0
        have HK := Lib.hid hK
        have kk : k ≤ 1000 := by omega
        have k1 : K ≤ 1000 := by omega
        by_cases hr : A % K = 0
        · have hp : ceilZ A K = A / K := by unfold ceilZ; rw [if_pos hr]
          have hge : ¬ A / K * K < A := by omega
          have HP := Lib.hid hp
          clear hp hr hem hm0 hce hP0 hK
          go_wp2_with (at_builtin; refine wpList_append_own _ rfl _ _ 27 rfl w.heap.size 2 i0 (.int .i64 0) 1 8 Try.underlying27 hi hz0 hz1 hz2 rfl (by decide) _ _ _ rfl (hown.alloc _) ⟨wr.heap.size, 0, none⟩ 1 1 [.int .i64 (A / K)] rfl rfl (new_cell _ _ _) (one_int _ _) (by unfold maxLen; omega) (by omega) (by simp; omega) ?_; intro v' w1 hown' hgrow _)
          have hb1 := below_append hb hsz hown hgrow
          have hown1 : w1.ownsRow w.heap.size 2 1 v' (k + 1) (((List.range (k + 1)).map (fun i : Nat => partZ a (c : Int) (i : Int))).map (Value.int .i64)) := by
            rw [partsTo_succ, List.map_append, ← HC.out, HP.out]; simpa using hown'
          clear hown hown' hgrow hb
          go_wp2_with fail
          go_roundw
          case rel => exact ⟨k + 1, A - A / K, K - 1, rfl, rfl, by omega, by have := HK.out; omega, by omega, by omega, fun j hj => by rw [← HP.out, HN.out j hj]; congr 1, hown1, hb1⟩
          case measure => simp [intOf]; omega
        · have hp : ceilZ A K = A / K + 1 := by unfold ceilZ; rw [if_neg hr]
          have hge : A / K * K < A := by omega
          rw [hp] at hce
          have HP := Lib.hid hp
          clear hp hr hem hm0 hP0 hK
          obtain ⟨hc0, hc1⟩ := hce
          go_wp2_with (at_builtin; refine wpList_append_own _ rfl _ _ 27 rfl w.heap.size 2 i0 (.int .i64 0) 1 8 Try.underlying27 hi hz0 hz1 hz2 rfl (by decide) _ _ _ rfl (hown.alloc _) ⟨wr.heap.size, 0, none⟩ 1 1 [.int .i64 (A / K + 1)] rfl rfl (new_cell _ _ _) (one_int _ _) (by unfold maxLen; omega) (by omega) (by simp; omega) ?_; intro v' w1 hown' hgrow _)
          have hb1 := below_append hb hsz hown hgrow
          have hown1 : w1.ownsRow w.heap.size 2 1 v' (k + 1) (((List.range (k + 1)).map (fun i : Nat => partZ a (c : Int) (i : Int))).map (Value.int .i64)) := by
            rw [partsTo_succ, List.map_append, ← HC.out, HP.out]; simpa using hown'
          clear hown hown' hgrow hb
          go_wp2_with fail
          go_roundw
          case rel => exact ⟨k + 1, A - (A / K + 1), K - 1, rfl, rfl, by omega, by have := HK.out; omega, by omega, by omega, fun j hj => by rw [← HP.out, HN.out j hj]; congr 1, hown1, hb1⟩
          case measure => simp [intOf]; omega
      · obtain rfl : k = c := by omega
        obtain rfl : K = 0 := by omega
        have hown2 : wr.ownsRow w.heap.size 2 1 u6 (partsL a k).length ((partsL a k).map (Value.int .i64)) := by rw [partsL_len]; exact hown
        obtain ⟨p, cap, rfl, hrow⟩ := row_of_own hown2
        have hfin : SplitPost (splitL a k) (splitE a k) w (.returned (.tuple #[.slice p (partsL a k).length cap, .int .i64 0])) wr := by
          rw [HV.out.1, HV.out.2]
          exact ⟨p, cap, rfl, hrow, hb⟩
        have HF := Lib.hid hfin
        clear hfin hown hown2 hK hP hlt hk
        go_wp2_with fail
        go_ret2
        exact HF.out
end Go.Proofs.Ytjobdibkpddemaa
