/- The contract of chapter 1's examples (venduelaw01.awake): they hold. -/
import Derived.Test.YtjobdibkpddemaaMoneyDiv
import Derived.Test.YtjobdibkpddemaaMoneySplit
import Derived.Test.YtjobdibkpddemaaRefSum
namespace Go.Proofs.Ytjobdibkpddemaa
open Go.RowKit
set_option linter.unusedVariables false

theorem row64_step {w w' : World} {a : Option Addr} {zs : List Int} (h : Row64 w a zs) (hb : Below w.heap.size w w') : Row64 w' a zs := fun hl => by
  obtain ⟨b, o, e, hlt, hc⟩ := h hl
  exact ⟨b, o, e, Nat.lt_of_lt_of_le hlt hb.size, fun i hi => (hb.cell (p := ⟨b, o + i, none⟩) hlt).trans (hc i hi)⟩
theorem row64_alloc {w : World} {a : Option Addr} {zs : List Int} (h : Row64 w a zs) (o : Obj) : Row64 (w.alloc o) a zs := row64_step h ((Below.refl _ _).alloc (Nat.le_refl _) o)
theorem row64_lit3 (w : World) (x y z : Int) : Row64 (w.alloc (.cells #[.int .i64 x, .int .i64 y, .int .i64 z] 2)) (some ⟨w.heap.size, 0, none⟩) [x, y, z] := fun _ => ⟨w.heap.size, 0, rfl, by simp, fun i hi => by
  have hA := (At.new w 2 #[.int .i64 x, .int .i64 y, .int .i64 z]).cell
  match i, hi with
  | 0, _ => exact hA 0
  | 1, _ => exact hA 1
  | 2, _ => exact hA 2⟩

theorem ex_share : shareV 999 2500 = 249 ∧ shareE 999 2500 = 0 := by decide
theorem ex_up : upV 101 25 = 125 ∧ upE 101 25 = 0 := by decide
theorem ex_split : splitL 10 3 = [4, 3, 3] ∧ splitE 10 3 = 0 := by decide

theorem awake_any (w : World) : Calls Try.prog 11 #[] w fun e w' => e = .returned (.bool true) ∧ Below w.heap.size w w' := by
  have H1 := Lib.hid ex_share
  have H2 := Lib.hid ex_up
  have H3 := Lib.hid ex_split
  have H4 := Lib.hid (show sameB [4, 3, 3] [4, 3, 3] = true from decide_eq_true rfl)
  go_enter Try.func11, Try.ntmps11
  go_wp2_with fail
  refine (share_any 999 2500 _ (by omega) (by omega) (by omega) (by omega)).mono ?_; rintro e w1 ⟨rfl, hb1⟩
  rw [H1.out.1, H1.out.2]
  go_wp2_with fail
  refine (up_any 101 25 _ (by omega) (by omega) (by omega) (by omega)).mono ?_; rintro e w2 ⟨rfl, hb2⟩
  rw [H2.out.1, H2.out.2]
  go_wp2_with fail
  refine (split_any 10 3 _ (by omega) (by omega)).mono ?_; rintro e w3 ⟨p, cap, rfl, hr, hb3⟩
  rw [H3.out.1] at hr
  rw [H3.out.1, H3.out.2]
  have B3 := below_step (below_step hb1 hb2) hb3
  clear hb1 hb2 hb3
  go_wp2_with fail
  refine (same_any p _ cap 3 [4, 3, 3] [4, 3, 3] _ (row64_alloc hr _) (row64_lit3 _ _ _ _) (by simp) (by simp)).mono ?_; rintro e w4 ⟨rfl, hb4⟩
  rw [H4.out]
  go_wp2_with fail
  go_ret
  exact ⟨rfl, below_step (B3.alloc B3.size _) hb4⟩
end Go.Proofs.Ytjobdibkpddemaa
