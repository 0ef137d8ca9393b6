/- The contracts of the reference's Sum (with halves) and Same over int64 (package vendueref01): what each call answers; memory that lay before lies as it lay. -/
import Derived.Test.YtjobdibkpddemaaMoney
import Derived.Test.YtjobdibkpddemaaMoneyBits
import Derived.Deep.QuietTactic
import Derived.BigQuiet
import Derived.Outline
namespace Go.Proofs.Ytjobdibkpddemaa
open Go.RowKit
set_option linter.unusedVariables false

theorem low32 (a : Int) : bits .and .i64 a 4294967295 = a % 4294967296 := by
  have h := mask_pow a 32 (by decide)
  have e : (2 : Int) ^ 32 = 4294967296 := by decide
  rw [e] at h
  exact h
theorem halves_any (a : Int) (w : World) (a0 : -9223372036854775808 ≤ a) (a1 : a ≤ 9223372036854775807) :
    Calls Try.prog 35 #[.int .i64 a] w fun e w' => e = .returned (.agg #[.int .i64 (a / 4294967296), .int .i64 (a % 4294967296)]) ∧ Below w.heap.size w w' := by
  have H := Lib.hid (low32 a)
  go_enter Try.func35, Try.ntmps35
  go_wp2_with fail
  rw [H.out]
  exact bodyPost_ret (v := .agg #[.int .i64 (a / 4294967296), .int .i64 (a % 4294967296)]) (by simp [results, Try.results35, go_sem]) rfl ⟨rfl, (Below.refl _ _).alloc (Nat.le_refl _) _⟩

theorem halves_end (H L T : Int) (hT : H * 4294967296 + L = T) : (H + L / 4294967296) * 4294967296 + L % 4294967296 = T := by omega

set_option maxHeartbeats 2000000 in
theorem refSum_any (a : Option Addr) (cap : Nat) (zs : List Int) (w : World) (hR : Row64 w a zs) (hI : In64 zs) (hn : zs.length ≤ 1048576) :
    Calls Try.prog 28 #[.slice a zs.length cap] w fun e w' => e = .returned (.tuple #[.int .i64 (sumV zs), .int .i64 (sumE zs)]) ∧ Below w.heap.size w w' := by
  obtain ⟨n, hnn⟩ : ∃ n, n = zs.length := ⟨_, rfl⟩
  rw [← hnn]
  have HN := Lib.hid hnn
  rw [← hnn] at hn
  clear hnn
  go_enter Try.func28, Try.ntmps28
  go_wp2_with fail
  go_loopw [4, 5, 6] (fun hi lo i wr => ∃ (k : Nat) (H L : Int), i = .int .i64 k ∧ hi = .int .i64 H ∧ lo = .int .i64 L ∧ k ≤ n ∧ -2147483648 * (k : Int) ≤ H ∧ H ≤ 2147483647 * (k : Int) ∧ 0 ≤ L ∧ L ≤ 4294967295 * (k : Int) ∧
    Hid (H * 4294967296 + L = (zs.take k).sum) ∧ Below w.heap.size w wr) (fun _ _ i _ => n - (intOf i).toNat)
  case atStart => exact ⟨0, 0, 0, rfl, rfl, rfl, by omega, by omega, by omega, by omega, by omega, by simp [Hid], Below.refl _ _⟩
  case round =>
    obtain ⟨k, H, L, rfl, rfl, rfl, hk, h0, h1, l0, l1, hS, hgr⟩ := hrel
    by_cases hlt : k < n
    · obtain ⟨b, o, rfl, hb, hcells⟩ := hR (by rw [← HN.out]; omega)
      have hc := hcells k (by rw [← HN.out]; omega)
      have hc' : wr.cell? ⟨b, o + k, none⟩ = some (.int .i64 (zs.getD k 0)) := (hgr.cell (p := ⟨b, o + k, none⟩) hb).trans hc
      have hi64 := hI k (by rw [← HN.out]; omega)
      have hT := Lib.hid (sum_take zs k (by rw [← HN.out]; omega))
      clear hc hcells
      generalize zs.getD k 0 = x at *
      obtain ⟨x0, x1⟩ := hi64
      have x2 : -2147483648 ≤ x / 4294967296 ∧ x / 4294967296 ≤ 2147483647 := by omega
      have x3 : 0 ≤ x % 4294967296 ∧ x % 4294967296 ≤ 4294967295 := by omega
      obtain ⟨x4, x5⟩ := x2
      obtain ⟨x6, x7⟩ := x3
      have HX := Lib.hid (show (H + x / 4294967296) * 4294967296 + (L + x % 4294967296) = (zs.take (k + 1)).sum by rw [hT.out, ← hS.out]; omega)
      go_wp2_with fail
      refine (halves_any x _ x0 x1).mono ?_; rintro e w1 ⟨rfl, hb1⟩
      have hg1 := below_step hgr hb1
      go_wp2_with fail
      go_roundw
      case rel => exact ⟨k + 1, H + x / 4294967296, L + x % 4294967296, by go_num, rfl, rfl, by omega, by omega, by omega, by omega, by omega, HX, hg1.alloc hg1.size _⟩
      case measure => simp [intOf]; omega
    · obtain rfl : k = n := by omega
      rw [List.take_of_length_le (by rw [HN.out]; exact Nat.le_refl _)] at hS
      have hE := halves_end H L _ hS.out
      have HL := Lib.hid (low32 L)
      have d0 : 0 ≤ L / 4294967296 := by omega
      have d1 : L / 4294967296 ≤ 1048576 := by omega
      have r0 : 0 ≤ L % 4294967296 := by omega
      have r1 : L % 4294967296 ≤ 4294967295 := by omega
      by_cases hT : -9223372036854775808 ≤ zs.sum ∧ zs.sum ≤ 9223372036854775807
      · have hv : sumV zs = zs.sum ∧ sumE zs = 0 := by unfold sumV sumE; rw [if_pos hT, if_pos hT]; exact ⟨rfl, rfl⟩
        have HV := Lib.hid hv
        have t1 : H + L / 4294967296 ≤ 2147483647 := by omega
        have t0 : -2147483648 ≤ H + L / 4294967296 := by omega
        have HE := Lib.hid hE
        clear hv hT hS hE hR
        go_wp2_with fail
        rw [HL.out]
        have HW := Lib.hid (show wrap64 ((H + L / 4294967296) * 4294967296 + L % 4294967296) = zs.sum by rw [← HE.out]; exact IntWalk.wrap64_in _ (by omega))
        rw [HW.out]
        go_ret2
        exact ⟨by rw [HV.out.1, HV.out.2]; rfl, hgr⟩
      · have hv : sumV zs = 0 ∧ sumE zs = 16 := by unfold sumV sumE; rw [if_neg hT, if_neg hT]; exact ⟨rfl, rfl⟩
        have HV := Lib.hid hv
        by_cases t1 : 2147483647 < H + L / 4294967296
        · clear hv hT hS hE hR
          go_wp2_with fail
          go_ret2
          exact ⟨by rw [HV.out.1, HV.out.2]; rfl, hgr⟩
        · have t2 : H + L / 4294967296 < -2147483648 := by omega
          clear hv hT hS hE hR
          go_wp2_with fail
          go_ret2
          exact ⟨by rw [HV.out.1, HV.out.2]; rfl, hgr⟩

/-- Are two rows of numbers the same? -/
def sameB (zs ys : List Int) : Bool := decide (zs = ys)
theorem same_len (zs ys : List Int) (h : zs.length ≠ ys.length) : sameB zs ys = false := decide_eq_false fun e => h (by rw [e])
theorem same_all (zs ys : List Int) (h : zs.length = ys.length) (hk : ∀ i, i < zs.length → zs.getD i 0 = ys.getD i 0) : sameB zs ys = true := decide_eq_true (List.ext_getElem h fun i h1 h2 => by
  have := hk i h1
  rw [List.getD_eq_getElem?_getD, List.getD_eq_getElem?_getD, List.getElem?_eq_getElem h1, List.getElem?_eq_getElem h2] at this
  exact this)
theorem same_one (zs ys : List Int) (i : Nat) (h : zs.getD i 0 ≠ ys.getD i 0) : sameB zs ys = false := decide_eq_false fun e => h (by rw [e])
theorem same_any (a b : Option Addr) (ca cb : Nat) (zs ys : List Int) (w : World) (hA : Row64 w a zs) (hB : Row64 w b ys) (hn : zs.length ≤ 9223372036854775807) (hm : ys.length ≤ 9223372036854775807) :
    Calls Try.prog 21 #[.slice a zs.length ca, .slice b ys.length cb] w fun e w' => e = .returned (.bool (sameB zs ys)) ∧ Below w.heap.size w w' := by
  obtain ⟨n, hnn⟩ : ∃ n, n = zs.length := ⟨_, rfl⟩
  obtain ⟨m, hmm⟩ : ∃ m, m = ys.length := ⟨_, rfl⟩
  rw [← hnn, ← hmm]
  by_cases hl : n = m
  · have hl2 : zs.length = ys.length := by omega
    have HN := Lib.hid hnn
    have HM := Lib.hid hmm
    have HL := Lib.hid hl2
    rw [← hnn] at hn
    clear hnn hmm hm hl2
    subst hl
    have e0 : ((n : Int) != (n : Int)) = false := by simp
    go_enter Try.func21, Try.ntmps21
    go_wp2_with fail
    go_loopw [5] (fun i wr => ∃ k : Nat, i = .int .i64 k ∧ k ≤ n ∧ (∀ j, j < k → zs.getD j 0 = ys.getD j 0) ∧ Below w.heap.size w wr) (fun i _ => n - (intOf i).toNat)
    case atStart => exact ⟨0, rfl, by omega, fun j hj => by omega, Below.refl _ _⟩
    case round =>
      obtain ⟨k, rfl, hk, hal, hgr⟩ := hrel
      by_cases hlt : k < n
      · obtain ⟨b1, o1, rfl, hb1, hc1⟩ := hA (by rw [← HN.out]; omega)
        obtain ⟨b2, o2, rfl, hb2, hc2⟩ := hB (by rw [← HM.out]; omega)
        have c1 := (hgr.cell (p := ⟨b1, o1 + k, none⟩) hb1).trans (hc1 k (by rw [← HN.out]; omega))
        have c2 := (hgr.cell (p := ⟨b2, o2 + k, none⟩) hb2).trans (hc2 k (by rw [← HM.out]; omega))
        have HH := Lib.hid hal
        obtain ⟨x, hx⟩ : ∃ x, x = zs.getD k 0 := ⟨_, rfl⟩
        obtain ⟨y, hy⟩ : ∃ y, y = ys.getD k 0 := ⟨_, rfl⟩
        rw [← hx] at c1
        rw [← hy] at c2
        have HX := Lib.hid hx
        have HY := Lib.hid hy
        clear hc1 hc2 hal hx hy
        have k0 : (k : Int) < (n : Int) := by omega
        by_cases e : x = y
        · have e1 : (x != y) = false := by rw [bne_eq_false_iff_eq]; exact e
          have HE := Lib.hid (show ∀ j, j < k + 1 → zs.getD j 0 = ys.getD j 0 from fun j hj => by
            by_cases hjk : j = k
            · rw [hjk, ← HX.out, ← HY.out]; exact e
            · exact HH.out j (by omega))
          clear e
          go_wp2_with fail
          go_quiet (fail)
          go_wp2_with fail
          go_roundw
          case rel => exact ⟨k + 1, by go_num, by omega, HE.out, below_drewN hgr _⟩
          case measure => simp [intOf]; omega
        · have e1 : (x != y) = true := by rw [bne_iff_ne]; exact e
          have HE := Lib.hid (same_one zs ys k (by rw [← HX.out, ← HY.out]; exact e))
          clear e
          go_wp2_with fail
          go_quiet (fail)
          go_wp2_with fail
          go_ret
          exact ⟨by rw [HE.out]; rfl, below_drewN hgr _⟩
      · obtain rfl : k = n := by omega
        have HE := Lib.hid (same_all zs ys HL.out (fun i hi => hal i (by rw [HN.out]; exact hi)))
        clear hal
        go_wp2_with fail
        go_ret
        exact ⟨by rw [HE.out]; rfl, hgr⟩
  · have HE := Lib.hid (same_len zs ys (by omega))
    have e0 : ((n : Int) != (m : Int)) = true := by rw [bne_iff_ne]; omega
    clear hnn hmm hl
    go_enter Try.func21, Try.ntmps21
    go_wp2_with fail
    go_ret
    exact ⟨by rw [HE.out]; rfl, Below.refl _ _⟩

end Go.Proofs.Ytjobdibkpddemaa
