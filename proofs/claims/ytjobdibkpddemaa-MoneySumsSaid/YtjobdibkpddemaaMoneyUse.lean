/- Plain laws that the statements of chapter 1 lean on: masks, what is rounded up, shares. -/
import Derived.Test.YtjobdibkpddemaaMoneyAwake
namespace Go.Proofs.Ytjobdibkpddemaa
open Go.RowKit
set_option linter.unusedVariables false

theorem mask_bd (n : Int) (m : Nat) (hm : m < 9223372036854775808) : 0 ≤ bits BinOp.and IntKind.i64 n (m : Int) ∧ bits BinOp.and IntKind.i64 n (m : Int) ≤ m := by
  show 0 ≤ IntKind.i64.wrap ((BitVec.ofInt 64 n &&& BitVec.ofInt 64 (m : Int)).toNat : Int) ∧ IntKind.i64.wrap ((BitVec.ofInt 64 n &&& BitVec.ofInt 64 (m : Int)).toNat : Int) ≤ m
  rw [BitVec.toNat_and]
  have e : (BitVec.ofInt 64 (m : Int)).toNat = m := by
    rw [BitVec.ofInt_natCast, BitVec.toNat_ofNat]
    exact Nat.mod_eq_of_lt (by omega)
  have h : (BitVec.ofInt 64 n).toNat &&& (BitVec.ofInt 64 (m : Int)).toNat ≤ m := by
    rw [e]
    exact Nat.and_le_right
  generalize (BitVec.ofInt 64 n).toNat &&& (BitVec.ofInt 64 (m : Int)).toNat = x at *
  rw [IntKind.wrap_i64]
  omega
theorem mask60 (n : Int) : 0 ≤ bits BinOp.and IntKind.i64 n 1152921504606846975 ∧ bits BinOp.and IntKind.i64 n 1152921504606846975 ≤ 1152921504606846975 := mask_bd n 1152921504606846975 (by omega)
theorem mask63 (n : Int) : 0 ≤ bits BinOp.and IntKind.i64 n 9223372036854775807 ∧ bits BinOp.and IntKind.i64 n 9223372036854775807 ≤ 9223372036854775807 := mask_bd n 9223372036854775807 (by omega)
theorem mask30 (n : Int) : 0 ≤ bits BinOp.and IntKind.i64 n 1073741823 ∧ bits BinOp.and IntKind.i64 n 1073741823 ≤ 1073741823 := mask_bd n 1073741823 (by omega)
theorem mask40 (n : Int) : 0 ≤ bits BinOp.and IntKind.i64 n 1099511627775 ∧ bits BinOp.and IntKind.i64 n 1099511627775 ≤ 1099511627775 := mask_bd n 1099511627775 (by omega)
theorem mask20 (n : Int) : 0 ≤ bits BinOp.and IntKind.i64 n 1048575 ∧ bits BinOp.and IntKind.i64 n 1048575 ≤ 1048575 := mask_bd n 1048575 (by omega)
theorem mask14 (n : Int) : 0 ≤ bits BinOp.and IntKind.i64 n 16383 ∧ bits BinOp.and IntKind.i64 n 16383 ≤ 16383 := mask_bd n 16383 (by omega)
theorem mask6 (n : Int) : 0 ≤ bits BinOp.and IntKind.i64 n 63 ∧ bits BinOp.and IntKind.i64 n 63 ≤ 63 := mask_bd n 63 (by omega)

theorem row64_lit (w : World) (zs : List Int) (cs : Array Value) (h : cs = (zs.map (Value.int .i64)).toArray) : Row64 (w.alloc (.cells cs 2)) (some ⟨w.heap.size, 0, none⟩) zs := fun _ => ⟨w.heap.size, 0, rfl, by simp, fun i hi => by
  subst h
  rw [Nat.zero_add, (At.new w 2 _).cell i]
  simp [List.getD_eq_getElem?_getD, List.getElem?_eq_getElem hi]⟩
theorem up_facts (a s : Int) (a0 : 0 ≤ a) (a1 : a ≤ 4611686018427387904) (s0 : 1 ≤ s) (s1 : s ≤ 4611686018427387903) :
    upE a s = 0 ∧ upV a s % s = 0 ∧ a ≤ upV a s ∧ upV a s - a < s := by
  have hn : ¬ (a < 0 ∨ s < 1) := by omega
  have r0 := Int.emod_nonneg a (show s ≠ 0 by omega)
  have r1 := Int.emod_lt_of_pos a (show 0 < s by omega)
  have e1 := Int.emod_add_mul_ediv a s
  unfold upV upE
  rw [if_neg hn, if_neg hn]
  by_cases h : a % s = 0
  · rw [if_pos h, if_pos h]
    exact ⟨rfl, h, by omega, by omega⟩
  · rw [if_neg h, if_neg h]
    have hf : -9223372036854775808 ≤ a - a % s + s ∧ a - a % s + s ≤ 9223372036854775807 := by omega
    have f1 := fit_in hf
    have g1 : addV (a - a % s) s = a - a % s + s := f1.1
    have g2 : addE (a - a % s) s = 0 := f1.2
    rw [g1, g2]
    refine ⟨rfl, ?_, by omega, by omega⟩
    have e2 : a - a % s + s = s * (a / s + 1) := by rw [Int.mul_add, Int.mul_one]; omega
    rw [e2, Int.mul_emod_right]
theorem up_again (u s : Int) (u0 : 0 ≤ u) (s0 : 1 ≤ s) (h : u % s = 0) : upE u s = 0 ∧ upV u s = u := by
  have hn : ¬ (u < 0 ∨ s < 1) := by omega
  unfold upV upE
  rw [if_neg hn, if_neg hn, if_pos h, if_pos h]
  exact ⟨rfl, rfl⟩
theorem share_in (a b : Int) (a0 : 0 ≤ a) (b0 : 0 ≤ b) (b1 : b ≤ 10000) (a1 : a ≤ 9223372036854775807) :
    shareE a b = 0 ∧ shareV a b = a * b / 10000 ∧ 0 ≤ a * b / 10000 ∧ a * b / 10000 ≤ a := by
  have h : ¬ (a < 0 ∨ b < 0 ∨ 1000000 < b) := by omega
  have h0 : 0 ≤ a * b := Int.mul_nonneg a0 b0
  have h1 : a * b ≤ a * 10000 := Int.mul_le_mul_of_nonneg_left b1 a0
  have h2 : 0 ≤ a * b / 10000 ∧ a * b / 10000 ≤ a := by omega
  unfold shareE shareV
  rw [if_neg h, if_neg h]
  have f := fit_in (x := shareZ a b) (by unfold shareZ; omega)
  rw [f.1, f.2]
  exact ⟨rfl, rfl, h2⟩
end Go.Proofs.Ytjobdibkpddemaa
