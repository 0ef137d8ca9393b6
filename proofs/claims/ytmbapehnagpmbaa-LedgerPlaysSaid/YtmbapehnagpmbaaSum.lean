/- The contract of package money's Sum (with its closure), over the kit's law of bits.Add64: what each call answers; memory that lay before lies as it lay. -/
import Derived.Test.YtmbapehnagpmbaaRows
import Derived.Test.YtmbapehnagpmbaaMem
import Derived.Laws.Externs
import Derived.WalkKit
import Derived.WalkSpells
import Derived.WalkLawsBesides
import Derived.Lib.Hide
namespace Go.Proofs.Ytmbapehnagpmbaa
open Go.RowKit
set_option linter.unusedVariables false

theorem add64 (x y c : Int) (hx : 0 ≤ x) (hy : 0 ≤ y) (hc0 : 0 ≤ c) (hc : c ≤ 1) (w : World) : (callFunc 45 #[.int .u64 x, .int .u64 y, .int .u64 c]).run Try.prog w =
    .ok (.value (.tuple #[.int .u64 ((x + y + c) % 18446744073709551616), .int .u64 ((x + y + c) / 18446744073709551616)])) w := by
  rw [run_callFunc_extern Try.func45 (by kernel_rfl) (by kernel_rfl) (by kernel_rfl) (e := add64Entry) (by kernel_rfl), run_add64 x y c hx hy hc0 hc]
  rfl
theorem add64_0 (x y : Int) (hx : 0 ≤ x) (hy : 0 ≤ y) (w : World) : (callFunc 45 #[.int .u64 x, .int .u64 y, .int .u64 0]).run Try.prog w =
    .ok (.value (.tuple #[.int .u64 ((x + y) % 18446744073709551616), .int .u64 ((x + y) / 18446744073709551616)])) w := by
  simpa using add64 x y 0 hx hy (by omega) (by omega) w

/-- The two halves behind one number more. -/
def lowZ (lo n : Int) : Int := (lo + IntKind.u64.wrap n) % 18446744073709551616
def highZ (hi lo n : Int) : Int := (hi + IntKind.u64.wrap (n / 9223372036854775808) + (lo + IntKind.u64.wrap n) / 18446744073709551616) % 18446744073709551616

theorem put_any (n hi lo : Int) (bh bl : Nat) (w : World) (_n0 : -9223372036854775808 ≤ n) (_n1 : n ≤ 9223372036854775807) (h0 : 0 ≤ hi) (_h1 : hi ≤ 18446744073709551615) (l0 : 0 ≤ lo) (l1 : lo ≤ 18446744073709551615)
    (hH : At w bh 54 #[.int .u64 hi]) (hL : At w bl 54 #[.int .u64 lo]) (hne : bh ≠ bl) :
    Calls Try.prog 44 #[.int .i64 n, .pointer (some ⟨bl, 0, none⟩), .pointer (some ⟨bh, 0, none⟩)] w fun e w' => e = .returned (.tuple #[]) ∧
      (w.setCell ⟨bh, 0, none⟩ (.int .u64 (highZ hi lo n))).setCell ⟨bl, 0, none⟩ (.int .u64 (lowZ lo n)) = w' := by
  have c1 := hH.cell 0
  have c2 := hL.cell 0
  have f1 := hH.free 0
  have f2 := hL.free 0
  have w1 : 0 ≤ IntKind.u64.wrap n ∧ IntKind.u64.wrap n ≤ 18446744073709551615 := by rw [IntKind.wrap_u64]; omega
  have w2 : 0 ≤ IntKind.u64.wrap (n / 9223372036854775808) ∧ IntKind.u64.wrap (n / 9223372036854775808) ≤ 18446744073709551615 := by rw [IntKind.wrap_u64]; omega
  have e1 : ∀ w, _ := fun w => add64_0 lo (IntKind.u64.wrap n) l0 w1.1 w
  have e2 : ∀ w, _ := fun w => add64 hi (IntKind.u64.wrap (n / 9223372036854775808)) ((lo + IntKind.u64.wrap n) / 18446744073709551616) h0 w2.1 (by omega) (by omega) w
  clear w1 w2
  go_enter Try.func44, Try.ntmps44
  go_wp2
  go_end0
  exact ⟨rfl, rfl⟩

/-- The numbers that a slice of int64 holds: each has its cell. -/
def Row64 (w : World) (a : Option Addr) (zs : List Int) : Prop :=
  0 < zs.length → ∃ b o, a = some ⟨b, o, none⟩ ∧ b < w.heap.size ∧ ∀ i, i < zs.length → w.cell? ⟨b, o + i, none⟩ = some (.int .i64 (zs.getD i 0))
/-- Each is one of 64 bits. -/
def In64 (zs : List Int) : Prop := ∀ i, i < zs.length → -9223372036854775808 ≤ zs.getD i 0 ∧ zs.getD i 0 ≤ 9223372036854775807

def sumV (zs : List Int) : Int := if -9223372036854775808 ≤ zs.sum ∧ zs.sum ≤ 9223372036854775807 then zs.sum else 0
def sumE (zs : List Int) : Int := if -9223372036854775808 ≤ zs.sum ∧ zs.sum ≤ 9223372036854775807 then 0 else 16

theorem sum_take (zs : List Int) (k : Nat) (h : k < zs.length) : (zs.take (k + 1)).sum = (zs.take k).sum + zs.getD k 0 := by
  rw [List.take_succ_eq_append_getElem h, List.sum_append]
  simp [List.getD_eq_getElem?_getD, List.getElem?_eq_getElem h]
theorem sum_bd (zs : List Int) (h : In64 zs) : ∀ k, k ≤ zs.length → -9223372036854775808 * (k : Int) ≤ (zs.take k).sum ∧ (zs.take k).sum ≤ 9223372036854775808 * (k : Int) := by
  intro k
  induction k with
  | zero => intro _; simp
  | succ k ih =>
    intro hk
    have h1 := ih (by omega)
    have h2 := h k (by omega)
    rw [sum_take zs k (by omega)]
    omega

theorem high_low (hi lo x s t : Int) (hS : Hid ((hi * 18446744073709551616 + lo - s) % 340282366920938463463374607431768211456 = 0)) (hT : t = s + x) (x0 : -9223372036854775808 ≤ x) (x1 : x ≤ 9223372036854775807) (_l0 : 0 ≤ lo) (_l1 : lo ≤ 18446744073709551615) :
    Hid ((highZ hi lo x * 18446744073709551616 + lowZ lo x - t) % 340282366920938463463374607431768211456 = 0) := by
  have h := hS.out
  unfold highZ lowZ Hid
  rw [IntKind.wrap_u64, IntKind.wrap_u64]
  omega
theorem fits (hi lo s : Int) (hS : Hid ((hi * 18446744073709551616 + lo - s) % 340282366920938463463374607431768211456 = 0)) (_h0 : 0 ≤ hi) (_h1 : hi ≤ 18446744073709551615) (l0 : 0 ≤ lo) (l1 : lo ≤ 18446744073709551615)
    (hT : -9223372036854775808 ≤ s ∧ s ≤ 9223372036854775807) : (wrap64 hi != wrap64 lo / 9223372036854775808) = false ∧ wrap64 lo = s := by
  have h := hS.out
  constructor
  · rw [bne_eq_false_iff_eq]
    unfold wrap64
    omega
  · unfold wrap64
    omega
theorem fits_not (hi lo s : Int) (n : Nat) (hS : Hid ((hi * 18446744073709551616 + lo - s) % 340282366920938463463374607431768211456 = 0)) (h0 : 0 ≤ hi) (h1 : hi ≤ 18446744073709551615) (l0 : 0 ≤ lo) (l1 : lo ≤ 18446744073709551615)
    (hT : ¬ (-9223372036854775808 ≤ s ∧ s ≤ 9223372036854775807)) (hb : -9223372036854775808 * (n : Int) ≤ s ∧ s ≤ 9223372036854775808 * (n : Int)) (hn : n ≤ 9223372036854775807) : (wrap64 hi != wrap64 lo / 9223372036854775808) = true := by
  have h := hS.out
  rw [bne_iff_ne]
  unfold wrap64
  intro e
  by_cases h63 : lo < 9223372036854775808
  · have e1 : (lo + 9223372036854775808) % 18446744073709551616 - 9223372036854775808 = lo := by omega
    rw [e1] at e
    omega
  · have e1 : (lo + 9223372036854775808) % 18446744073709551616 - 9223372036854775808 = lo - 18446744073709551616 := by omega
    rw [e1] at e
    omega

theorem sum_any (a : Option Addr) (cap : Nat) (zs : List Int) (w : World) (hR : Row64 w a zs) (hI : In64 zs) (hn : zs.length ≤ 9223372036854775807) :
    Calls Try.prog 34 #[.slice a zs.length cap] w fun e w' => e = .returned (.tuple #[.int .i64 (sumV zs), .int .i64 (sumE zs)]) ∧ Below w.heap.size w w' := by
  have hmf : ∀ (fn : Fn) (first cap : Array Value) (w : World), (Instr.makeFunc fn first cap).run Try.prog w = .ok (.func fn first cap) w := fun _ _ _ _ => rfl
  obtain ⟨n, hnn⟩ : ∃ n, n = zs.length := ⟨_, rfl⟩
  rw [← hnn]
  have HN := Lib.hid hnn
  rw [← hnn] at hn
  clear hnn
  go_enter Try.func34, Try.ntmps34
  go_wp2_with fail
  obtain ⟨W1, hW1⟩ : ∃ W1, W1 = (w.alloc (.cells #[.int .u64 0] 54)).alloc (.cells #[.int .u64 0] 54) := ⟨_, rfl⟩
  have hg : Below w.heap.size w W1 := by rw [hW1]; exact ((Below.refl _ _).alloc (Nat.le_refl _) _).alloc (by simp) _
  have hA : At W1 w.heap.size 54 #[.int .u64 0] := by rw [hW1]; exact (At.new _ _ _).alloc _
  have hB : At W1 (w.heap.size + 1) 54 #[.int .u64 0] := by rw [hW1]; have h := At.new (w.alloc (.cells #[.int .u64 0] 54)) 54 #[.int .u64 0]; simpa using h
  rw [← hW1]
  clear hW1
  go_loopw [12] (fun i wr => ∃ (k : Nat) (hi lo : Int), i = .int .i64 k ∧ k ≤ n ∧ 0 ≤ hi ∧ hi ≤ 18446744073709551615 ∧ 0 ≤ lo ∧ lo ≤ 18446744073709551615 ∧ Hid ((hi * 18446744073709551616 + lo - (zs.take k).sum) % 340282366920938463463374607431768211456 = 0) ∧
    At wr w.heap.size 54 #[.int .u64 hi] ∧ At wr (w.heap.size + 1) 54 #[.int .u64 lo] ∧ Below w.heap.size w wr) (fun i _ => n - (intOf i).toNat)
  case atStart => exact ⟨0, 0, 0, rfl, by omega, by omega, by omega, by omega, by omega, by simp [Hid], hA, hB, hg⟩
  case round =>
    obtain ⟨k, hi, lo, rfl, hk, h0, h1, l0, l1, hS, hAr, hBr, hgr⟩ := hrel
    clear hA hB hg
    by_cases hlt : k < n
    · obtain ⟨b, o, rfl, hb, hcells⟩ := hR (by rw [← HN.out]; omega)
      have hc := hcells k (by rw [← HN.out]; omega)
      have hc' : wr.cell? ⟨b, o + k, none⟩ = some (.int .i64 (zs.getD k 0)) := (hgr.cell (p := ⟨b, o + k, none⟩) hb).trans hc
      have hi64 := hI k (by rw [← HN.out]; omega)
      have hT := Lib.hid (sum_take zs k (by rw [← HN.out]; omega))
      clear hc hcells
      generalize zs.getD k 0 = x at *
      obtain ⟨x0, x1⟩ := hi64
      go_wp2_with fail
      refine (put_any x hi lo _ _ _ x0 x1 h0 h1 l0 l1 hAr hBr (by omega)).mono ?_; rintro e w' ⟨rfl, rfl⟩
      go_wp2_with fail
      go_roundw
      case rel => exact ⟨k + 1, highZ hi lo x, lowZ lo x, by go_num, by omega, by unfold highZ; omega, by unfold highZ; omega, by unfold lowZ; omega, by unfold lowZ; omega, high_low hi lo x _ _ hS hT.out x0 x1 l0 l1, (hAr.put1 _).far (by simp) _, (hBr.far (by simp) _).put1 _, (hgr.setCell (by simp) _).setCell (by simp) _⟩
      case measure => simp [intOf]; omega
    · obtain rfl : k = n := by omega
      have a0 := hAr.cell 0
      have b0 := hBr.cell 0
      have hb := sum_bd zs hI k (by rw [HN.out]; exact Nat.le_refl _)
      rw [List.take_of_length_le (by rw [HN.out]; exact Nat.le_refl _)] at hS hb
      by_cases hT : -9223372036854775808 ≤ zs.sum ∧ zs.sum ≤ 9223372036854775807
      · have hv : sumV zs = zs.sum ∧ sumE zs = 0 := by unfold sumV sumE; rw [if_pos hT, if_pos hT]; exact ⟨rfl, rfl⟩
        have hf := fits hi lo zs.sum hS h0 h1 l0 l1 hT
        obtain ⟨f1, f2⟩ := hf
        have F2 := Lib.hid f2
        have HV := Lib.hid hv
        clear hv f2 hT hS
        go_wp2_with fail
        go_ret2
        exact ⟨by rw [HV.out.1, HV.out.2, ← F2.out]; rfl, hgr⟩
      · have hv : sumV zs = 0 ∧ sumE zs = 16 := by unfold sumV sumE; rw [if_neg hT, if_neg hT]; exact ⟨rfl, rfl⟩
        have HV := Lib.hid hv
        have hf := fits_not hi lo zs.sum k hS h0 h1 l0 l1 hT hb hn
        clear hv hT hS
        go_wp2_with fail
        go_ret2
        exact ⟨by rw [HV.out.1, HV.out.2]; rfl, hgr⟩

end Go.Proofs.Ytmbapehnagpmbaa
