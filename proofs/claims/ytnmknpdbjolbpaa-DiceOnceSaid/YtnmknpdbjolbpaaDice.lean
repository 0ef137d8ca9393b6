/- The contracts of package dice's Mix, New, Next, Below, Draw and of the document's own answer: each call's result and the world behind it. -/
import Derived.Test.YtnmknpdbjolbpaaRows
import Derived.Test.YtnmknpdbjolbpaaMath
import Derived.Test.YtnmknpdbjolbpaaMem
import Derived.WalkKit
import Derived.WalkSpells
import Derived.WalkLawsBesides
import Derived.Lib.Hide
namespace Go.Proofs.Ytnmknpdbjolbpaa
open Go.RowKit

theorem mix_any (a : Int) (w : World) (_h0 : 0 ≤ a) (_h1 : a ≤ 18446744073709551615) :
    Calls Try.prog 11 #[.int .u64 a] w fun e w' => e = .returned (.int .u64 (mixZ a)) ∧ w = w' := by
  go_enter Try.func11, Try.ntmps11
  go_wp2
  go_ret
  exact ⟨rfl, rfl⟩

theorem refmix_any (a : Int) (w : World) (h0 : 0 ≤ a) (h1 : a ≤ 18446744073709551615) :
    Calls Try.prog 17 #[.int .u64 a] w fun e w' => e = .returned (.int .u64 (mixZ a)) ∧ w = w' := by
  have b1 := m1_bd a
  have b2 := m2_bd (m1 a)
  unfold m2 m1 at b2
  unfold m1 at b1
  obtain ⟨b1, b1'⟩ := b1
  obtain ⟨b2, b2'⟩ := b2
  go_enter Try.func17, Try.ntmps17
  go_wp2
  go_ret
  exact ⟨rfl, rfl⟩

theorem new_any (a : Int) (w : World) :
    Calls Try.prog 12 #[.int .u64 a] w fun e w' => e = .returned (.pointer (some ⟨w.heap.size, 0, none⟩)) ∧ w.alloc (.cells #[.int .u64 a] 31) = w' := by
  go_enter Try.func12, Try.ntmps12
  go_wp2
  go_ret
  exact ⟨rfl, rfl⟩

theorem next_nil (w : World) :
    Calls Try.prog 13 #[.pointer none] w fun e w' => e = .returned (.int .u64 0) ∧ w = w' := by
  go_enter Try.func13, Try.ntmps13
  go_wp2
  go_ret
  exact ⟨rfl, rfl⟩

theorem next_any (b : Nat) (s : Int) (w : World) (hA : At w b 31 #[.int .u64 s]) :
    Calls Try.prog 13 #[.pointer (some ⟨b, 0, none⟩)] w fun e w' => e = .returned (.int .u64 (mixZ (stepZ s))) ∧ w.setCell ⟨b, 0, none⟩ (.int .u64 (stepZ s)) = w' := by
  have hb := stepZ_bd s
  unfold stepZ at hb
  have hc := hA.cell 0
  have hf := hA.free 0
  obtain ⟨hb0, hb1⟩ := hb
  go_enter Try.func13, Try.ntmps13
  go_wp2_with (go_at_call 11; refine (mix_any _ _ hb0 hb1).mono ?_; rintro e w' ⟨rfl, rfl⟩)
  go_ret
  exact ⟨rfl, rfl⟩

theorem refnext_any (b : Nat) (s : Int) (w : World) (hA : At w b 38 #[.int .u64 s]) :
    Calls Try.prog 16 #[.pointer (some ⟨b, 0, none⟩)] w fun e w' => e = .returned (.int .u64 (mixZ (stepZ s))) ∧ w.setCell ⟨b, 0, none⟩ (.int .u64 (stepZ s)) = w' := by
  have hb := stepZ_bd s
  unfold stepZ at hb
  have hc := hA.cell 0
  have hf := hA.free 0
  obtain ⟨hb0, hb1⟩ := hb
  go_enter Try.func16, Try.ntmps16
  go_wp2_with (go_at_call 17; refine (refmix_any _ _ hb0 hb1).mono ?_; rintro e w' ⟨rfl, rfl⟩)
  go_ret
  exact ⟨rfl, rfl⟩

theorem below_nil (n : Int) (w : World) :
    Calls Try.prog 14 #[.pointer none, .int .i64 n] w fun e w' => e = .returned (.int .i64 0) ∧ w = w' := by
  go_enter Try.func14, Try.ntmps14
  go_wp2
  go_ret
  exact ⟨rfl, rfl⟩

theorem below_out (b : Nat) (n : Int) (w : World) (hn : n < 1 ∨ 2147483648 < n) :
    Calls Try.prog 14 #[.pointer (some ⟨b, 0, none⟩), .int .i64 n] w fun e w' => e = .returned (.int .i64 0) ∧ w = w' := by
  rcases hn with hn | hn
  · go_enter Try.func14, Try.ntmps14
    go_wp2
    go_ret
    exact ⟨rfl, rfl⟩
  · have hn' : ¬ n < 1 := by omega
    go_enter Try.func14, Try.ntmps14
    go_wp2
    go_ret
    exact ⟨rfl, rfl⟩

theorem below_in (b : Nat) (s n : Int) (w : World) (hn : 1 ≤ n) (hn' : n ≤ 2147483648) (hA : At w b 31 #[.int .u64 s]) :
    Calls Try.prog 14 #[.pointer (some ⟨b, 0, none⟩), .int .i64 n] w fun e w' => e = .returned (.int .i64 (belowZ (mixZ (stepZ s)) n)) ∧ w.setCell ⟨b, 0, none⟩ (.int .u64 (stepZ s)) = w' := by
  have hm := mixZ_bd (stepZ s)
  have hb := below_bd _ n hm ⟨hn, hn'⟩
  unfold belowZ at hb
  obtain ⟨hb0, hb1⟩ := hb
  obtain ⟨hm0, hm1⟩ := hm
  go_enter Try.func14, Try.ntmps14
  go_wp2_with (go_at_call 13; refine (next_any b s _ hA).mono ?_; rintro e w' ⟨rfl, rfl⟩)
  go_ret
  exact ⟨rfl, rfl⟩

theorem refbelow_out (b : Nat) (n : Int) (w : World) (hn : n < 1 ∨ 2147483648 < n) :
    Calls Try.prog 15 #[.pointer (some ⟨b, 0, none⟩), .int .i64 n] w fun e w' => e = .returned (.int .i64 0) ∧ w = w' := by
  rcases hn with hn | hn
  · go_enter Try.func15, Try.ntmps15
    go_wp2
    go_ret
    exact ⟨rfl, rfl⟩
  · have hn' : ¬ n < 1 := by omega
    go_enter Try.func15, Try.ntmps15
    go_wp2
    go_ret
    exact ⟨rfl, rfl⟩

theorem refbelow_in (b : Nat) (s n : Int) (w : World) (hn : 1 ≤ n) (hn' : n ≤ 2147483648) (hA : At w b 38 #[.int .u64 s]) :
    Calls Try.prog 15 #[.pointer (some ⟨b, 0, none⟩), .int .i64 n] w fun e w' => e = .returned (.int .i64 (belowZ (mixZ (stepZ s)) n)) ∧ w.setCell ⟨b, 0, none⟩ (.int .u64 (stepZ s)) = w' := by
  have hm := mixZ_bd (stepZ s)
  have hb := below_bd _ n hm ⟨hn, hn'⟩
  unfold belowZ at hb
  obtain ⟨hb0, hb1⟩ := hb
  obtain ⟨hm0, hm1⟩ := hm
  go_enter Try.func15, Try.ntmps15
  go_wp2_with (go_at_call 16; refine (refnext_any b s _ hA).mono ?_; rintro e w' ⟨rfl, rfl⟩)
  go_ret
  exact ⟨rfl, rfl⟩

theorem step_zero : stepZ 0 = 11400714819323198485 := by decide +kernel

theorem awake_any (w : World) :
    Calls Try.prog 10 #[] w fun e w' => e = .returned (.bool true) ∧ w.alloc (.cells #[.int .u64 11400714819323198485] 31) = w' := by
  go_enter Try.func10, Try.ntmps10
  go_wp2_with (first | (go_at_call 12; refine (new_any _ _).mono ?_; rintro e w' ⟨rfl, rfl⟩) | (go_at_call 13; refine (next_any w.heap.size 0 _ (At.new _ _ _)).mono ?_; rintro e w' ⟨rfl, rfl⟩))
  go_ret
  exact ⟨by rw [step_zero, mix_first]; rfl, by rw [step_zero]⟩
theorem draw_any (s r l n : Int) (w : World) (h0 : 0 ≤ s) (h1 : s ≤ 18446744073709551615) :
    Calls Try.prog 18 #[.int .u64 s, .int .i64 r, .int .i64 l, .int .i64 n] w fun e w' => e = .returned (.int .i64 (drawZ s r l n)) ∧ Below w.heap.size w w' := by
  by_cases hn : n < 1 ∨ 2147483648 < n
  · have hd : drawZ s r l n = 0 := by unfold drawZ; rw [if_pos hn]
    go_enter Try.func18, Try.ntmps18
    go_wp2_with fail
    refine (mix_any s _ h0 h1).mono ?_; rintro e w' ⟨rfl, rfl⟩
    go_wp2_with fail
    refine (new_any _ _).mono ?_; rintro e w' ⟨rfl, rfl⟩
    go_wp2_with fail
    refine (below_out _ n _ hn).mono ?_; rintro e w' ⟨rfl, rfl⟩
    go_wp2_with fail
    go_ret
    exact ⟨by rw [hd]; rfl, (Below.refl _ _).alloc (Nat.le_refl _) _⟩
  · have hd : drawZ s r l n = belowZ (mixZ (stepZ (seatZ s r l))) n := by unfold drawZ; rw [if_neg hn]
    have Hd := Lib.hid hd
    clear hd
    go_enter Try.func18, Try.ntmps18
    go_wp2_with fail
    refine (mix_any s _ h0 h1).mono ?_; rintro e w' ⟨rfl, rfl⟩
    go_wp2_with fail
    refine (new_any _ _).mono ?_; rintro e w' ⟨rfl, rfl⟩
    go_wp2_with fail
    refine (below_in _ (seatZ s r l) n _ (by omega) (by omega) (At.new _ _ _)).mono ?_; rintro e w' ⟨rfl, rfl⟩
    go_wp2_with fail
    go_ret
    exact ⟨by rw [Hd.out]; rfl, (Below.refl _ _).alloc (Nat.le_refl _) _⟩

theorem refdraw_any (s r l n : Int) (w : World) (h0 : 0 ≤ s) (h1 : s ≤ 18446744073709551615) :
    Calls Try.prog 19 #[.int .u64 s, .int .i64 r, .int .i64 l, .int .i64 n] w fun e w' => e = .returned (.int .i64 (drawZ s r l n)) ∧ Below w.heap.size w w' := by
  by_cases hn : n < 1 ∨ 2147483648 < n
  · have hd : drawZ s r l n = 0 := by unfold drawZ; rw [if_pos hn]
    go_enter Try.func19, Try.ntmps19
    go_wp2_with fail
    refine (refmix_any s _ h0 h1).mono ?_; rintro e w' ⟨rfl, rfl⟩
    go_wp2_with fail
    refine (refbelow_out _ n _ hn).mono ?_; rintro e w' ⟨rfl, rfl⟩
    go_wp2_with fail
    go_ret
    exact ⟨by rw [hd]; rfl, (Below.refl _ _).alloc (Nat.le_refl _) _⟩
  · have hd : drawZ s r l n = belowZ (mixZ (stepZ (seatZ s r l))) n := by unfold drawZ; rw [if_neg hn]
    have Hd := Lib.hid hd
    clear hd
    go_enter Try.func19, Try.ntmps19
    go_wp2_with fail
    refine (refmix_any s _ h0 h1).mono ?_; rintro e w' ⟨rfl, rfl⟩
    go_wp2_with fail
    refine (refbelow_in _ (seatZ s r l) n _ (by omega) (by omega) (At.new _ _ _)).mono ?_; rintro e w' ⟨rfl, rfl⟩
    go_wp2_with fail
    go_ret
    exact ⟨by rw [Hd.out]; rfl, (Below.refl _ _).alloc (Nat.le_refl _) _⟩
theorem grownBy_put (w : World) (p : Addr) (u : Value) : w.grownBy (w.setCell p u) (some p.block) :=
  ⟨rfl, rfl, rfl, by simp [World.setCell], fun i _ hne => Below.heap_setCell w p u i (fun e => hne (by rw [e]))⟩

theorem below_any (b : Nat) (s n : Int) (w : World) (hA : At w b 31 #[.int .u64 s]) :
    Calls Try.prog 14 #[.pointer (some ⟨b, 0, none⟩), .int .i64 n] w fun e w' => e = .returned (.int .i64 (tellZ s n)) ∧ At w' b 31 #[.int .u64 (afterZ s n)] ∧ w.grownBy w' (some b) := by
  by_cases hn : n < 1 ∨ 2147483648 < n
  · refine (below_out b n w hn).mono ?_
    rintro e w' ⟨rfl, rfl⟩
    unfold tellZ afterZ
    rw [if_pos hn, if_pos hn]
    exact ⟨rfl, hA, World.grownBy.refl _ _⟩
  · refine (below_in b s n w (by omega) (by omega) hA).mono ?_
    rintro e w' ⟨rfl, rfl⟩
    unfold tellZ afterZ
    rw [if_neg hn, if_neg hn]
    exact ⟨rfl, hA.put1 _, grownBy_put _ _ _⟩

theorem refbelow_any (b : Nat) (s n : Int) (w : World) (hA : At w b 38 #[.int .u64 s]) :
    Calls Try.prog 15 #[.pointer (some ⟨b, 0, none⟩), .int .i64 n] w fun e w' => e = .returned (.int .i64 (tellZ s n)) ∧ At w' b 38 #[.int .u64 (afterZ s n)] ∧ w.grownBy w' (some b) := by
  by_cases hn : n < 1 ∨ 2147483648 < n
  · refine (refbelow_out b n w hn).mono ?_
    rintro e w' ⟨rfl, rfl⟩
    unfold tellZ afterZ
    rw [if_pos hn, if_pos hn]
    exact ⟨rfl, hA, World.grownBy.refl _ _⟩
  · refine (refbelow_in b s n w (by omega) (by omega) hA).mono ?_
    rintro e w' ⟨rfl, rfl⟩
    unfold tellZ afterZ
    rw [if_neg hn, if_neg hn]
    exact ⟨rfl, hA.put1 _, grownBy_put _ _ _⟩

theorem next_row (b : Nat) (s : Int) (w : World) (hA : At w b 31 #[.int .u64 s]) :
    Calls Try.prog 13 #[.pointer (some ⟨b, 0, none⟩)] w fun e w' => e = .returned (.int .u64 (mixZ (stepZ s))) ∧ At w' b 31 #[.int .u64 (stepZ s)] ∧ w.grownBy w' (some b) := by
  refine (next_any b s w hA).mono ?_
  rintro e w' ⟨rfl, rfl⟩
  exact ⟨rfl, hA.put1 _, grownBy_put _ _ _⟩

theorem refnext_row (b : Nat) (s : Int) (w : World) (hA : At w b 38 #[.int .u64 s]) :
    Calls Try.prog 16 #[.pointer (some ⟨b, 0, none⟩)] w fun e w' => e = .returned (.int .u64 (mixZ (stepZ s))) ∧ At w' b 38 #[.int .u64 (stepZ s)] ∧ w.grownBy w' (some b) := by
  refine (refnext_any b s w hA).mono ?_
  rintro e w' ⟨rfl, rfl⟩
  exact ⟨rfl, hA.put1 _, grownBy_put _ _ _⟩
end Go.Proofs.Ytnmknpdbjolbpaa
