/- The contract of venduelaw16.plays: step by step, package ledger and the reference of chapter 16 go on alike. -/
import Derived.Test.YtmbapehnagpmbaaOpRow
namespace Go.Proofs.Ytmbapehnagpmbaa
open Go.RowKit
set_option linter.unusedVariables false

/-- An account, as it lies in a block. -/
def AccAt (w : World) (g : Nat) (x : Acc) : Prop := At w g 24 #[.int .i64 x.n, .int .i64 x.i, .int .i64 x.h, .bool x.s, .int .i64 x.p, .int .i64 x.b, .int .i64 x.d]
theorem AccAt.cells {w : World} {g : Nat} {x : Acc} (h : AccAt w g x) : w.cell? ⟨g, 0, none⟩ = some (.int .i64 x.n) ∧ w.cell? ⟨g, 1, none⟩ = some (.int .i64 x.i) ∧ w.cell? ⟨g, 2, none⟩ = some (.int .i64 x.h) ∧ w.cell? ⟨g, 3, none⟩ = some (.bool x.s) ∧ w.cell? ⟨g, 4, none⟩ = some (.int .i64 x.p) ∧ w.cell? ⟨g, 5, none⟩ = some (.int .i64 x.b) ∧ w.cell? ⟨g, 6, none⟩ = some (.int .i64 x.d) := cells7 h
theorem AccAt.frees {w : World} {g : Nat} {x : Acc} (h : AccAt w g x) : w.frozen? ⟨g, 0, none⟩ = false ∧ w.frozen? ⟨g, 1, none⟩ = false ∧ w.frozen? ⟨g, 2, none⟩ = false ∧ w.frozen? ⟨g, 3, none⟩ = false ∧ w.frozen? ⟨g, 4, none⟩ = false ∧ w.frozen? ⟨g, 5, none⟩ = false ∧ w.frozen? ⟨g, 6, none⟩ = false :=
  ⟨At.free h 0, At.free h 1, At.free h 2, At.free h 3, At.free h 4, At.free h 5, At.free h 6⟩
theorem AccAt.step {w w' : World} {g : Nat} {x : Acc} (h : AccAt w g x) (hb : Below w.heap.size w w') : AccAt w' g x := At.step h hb
theorem AccAt.lt {w : World} {g : Nat} {x : Acc} (h : AccAt w g x) : g < w.heap.size := At.lt h
theorem AccAt.alloc {w : World} {g : Nat} {x : Acc} (h : AccAt w g x) (o : Obj) : AccAt (w.alloc o) g x := At.alloc h o

theorem resV_eq (y : Acc) (er : Int) : resV (y, er) = .tuple #[.agg #[.int .i64 y.n, .int .i64 y.i, .int .i64 y.h, .bool y.s, .int .i64 y.p, .int .i64 y.b, .int .i64 y.d], .int .i64 er] := rfl
theorem AccAt.far {w w' : World} {g B : Nat} {x : Acc} (h : AccAt w g x) (hb : Below B w w') (hg : g < B) : AccAt w' g x := At.below h hb hg

set_option maxRecDepth 100000 in
set_option maxHeartbeats 32000000 in
theorem plays_any (x0 : Acc) (a : Option Addr) (len cap : Nat) (w : World) (hO : OpRow w a len) (hlen : len ≤ 9223372036854775807) :
    Calls Try.prog 14 #[.agg #[.int .i64 x0.n, .int .i64 x0.i, .int .i64 x0.h, .bool x0.s, .int .i64 x0.p, .int .i64 x0.b, .int .i64 x0.d], .slice a len cap] w fun e w' => e = .returned (.bool true) ∧ Below w.heap.size w w' := by
  go_enter Try.func14, Try.ntmps14
  go_wp2_with fail
  go_loopw [5] (fun i wr => ∃ (k : Nat) (x : Acc), i = .int .i64 k ∧ k ≤ 30 ∧ AccAt wr w.heap.size x ∧ Below w.heap.size w wr) (fun i _ => 30 - (intOf i).toNat)
  case atStart => exact ⟨0, x0, rfl, by omega, At.new _ _ _, (Below.refl _ _).alloc (Nat.le_refl _) _⟩
  case round =>
    obtain ⟨k, x, rfl, hk, hA, hB⟩ := hrel
    by_cases h1 : k < len
    · by_cases h2 : k < 30
      · obtain ⟨ob, oo, rfl, hob, hcells⟩ := hO (by omega)
        obtain ⟨kd, am, near, ends, kd0, kd1, am0, am1, p0, p1, p2, p3⟩ := hcells k h1
        have o0 := (hB.cell (p := ⟨ob, _, none⟩) hob).trans p0
        have o1 := (hB.cell (p := ⟨ob, _, none⟩) hob).trans p1
        have o2 := (hB.cell (p := ⟨ob, _, none⟩) hob).trans p2
        have o3 := (hB.cell (p := ⟨ob, _, none⟩) hob).trans p3
        have obr : ob < wr.heap.size := Nat.lt_of_lt_of_le hob hB.size
        have HO := Lib.hid (show ∀ w' : World, Below wr.heap.size wr w' → (w'.cell? ⟨ob, oo + k * 4, none⟩ = some (.int .i64 kd) ∧ w'.cell? ⟨ob, oo + k * 4 + 3, none⟩ = some (.bool ends)) from fun w' hb => ⟨(hb.cell (p := ⟨ob, _, none⟩) obr).trans o0, (hb.cell (p := ⟨ob, _, none⟩) obr).trans o3⟩)
        have m3 := mask3 kd
        clear hcells p0 p1 p2 p3
        go_wp2_with fail
        refine (amount_any kd am near ends _).mono ?_; rintro e w1 ⟨rfl, hb1⟩
        obtain ⟨v, hv⟩ : ∃ v, v = amZ am near := ⟨_, rfl⟩
        rw [← hv]
        clear hv o0 o1 o2 o3
        have A1 := hA.step hb1
        have s0 := hA.lt
        have s1 := hb1.size
        obtain ⟨a0, a1, a2, a3, a4, a5, a6⟩ := A1.cells
        go_wp2_with fail
        refine (putOp_any x.n x.i x.h x.s x.p x.b x.d v _).mono ?_; rintro e w2 ⟨rfl, hb2⟩
        obtain ⟨z, ez, hz⟩ : ∃ z ez, putR ⟨x.n, x.i, x.h, x.s, x.p, x.b, x.d⟩ v = (z, ez) := ⟨_, _, rfl⟩
        have HZ := Lib.hid hz
        clear hz a0 a1 a2 a3 a4 a5 a6
        rw [HZ.out, resV_eq]
        have A2 := A1.step hb2
        have B2 : Below wr.heap.size wr w2 := below_step hb1 hb2
        have s2 := hb2.size
        obtain ⟨a0, a1, a2, a3, a4, a5, a6⟩ := A2.cells
        have l2 := A2.lt
        clear A1 hb1 hb2
        go_wp2_with fail
        refine (refPut_any x.n x.i x.h x.s x.p x.b x.d v _).mono ?_; rintro e w3 ⟨rfl, hb3⟩
        rw [HZ.out, resV_eq]
        clear a0 a1 a2 a3 a4 a5 a6
        have X3 : AccAt w3 w2.heap.size z := (At.new w2 24 _).step hb3
        have A3 := (A2.alloc (.cells #[.int .i64 z.n, .int .i64 z.i, .int .i64 z.h, .bool z.s, .int .i64 z.p, .int .i64 z.b, .int .i64 z.d] 24)).step hb3
        have B3 : Below wr.heap.size wr w3 := below_step (B2.alloc (by omega) _) hb3
        have s3 := hb3.size
        simp only [World.size_alloc] at s3
        clear A2 B2 hb3
        have l3 := A3.lt
        have l4 := X3.lt
        have X4 := X3.alloc (.cells #[.int .i64 z.n, .int .i64 z.i, .int .i64 z.h, .bool z.s, .int .i64 z.p, .int .i64 z.b, .int .i64 z.d] 24)
        have A4 := A3.alloc (.cells #[.int .i64 z.n, .int .i64 z.i, .int .i64 z.h, .bool z.s, .int .i64 z.p, .int .i64 z.b, .int .i64 z.d] 24)
        have Y4 : AccAt (w3.alloc (.cells #[.int .i64 z.n, .int .i64 z.i, .int .i64 z.h, .bool z.s, .int .i64 z.p, .int .i64 z.b, .int .i64 z.d] 24)) w3.heap.size z := At.new w3 24 _
        have B4 : Below wr.heap.size wr (w3.alloc (.cells #[.int .i64 z.n, .int .i64 z.i, .int .i64 z.h, .bool z.s, .int .i64 z.p, .int .i64 z.b, .int .i64 z.d] 24)) := B3.alloc (by omega) _
        go_upto_region 7 with fail
        obtain ⟨W4, hW4⟩ : ∃ W4, W4 = w3.alloc (.cells #[.int .i64 z.n, .int .i64 z.i, .int .i64 z.h, .bool z.s, .int .i64 z.p, .int .i64 z.b, .int .i64 z.d] 24) := ⟨_, rfl⟩
        rw [← hW4] at X4 A4 Y4 B4 ⊢
        clear hW4 X3 A3 B3
        obtain ⟨o0, o3⟩ := HO.out W4 B4
        obtain ⟨a0, a1, a2, a3, a4, a5, a6⟩ := A4.cells
        have hk4 : bits .and .i64 kd 3 = 0 ∨ bits .and .i64 kd 3 = 1 ∨ bits .and .i64 kd 3 = 2 ∨ bits .and .i64 kd 3 = 3 := by omega
        clear m3 HO
        rcases hk4 with K0 | K0 | K0 | K0
        · clear o3
          go_upto_region 19 with fail
          clear a0 a1 a2 a3 a4 a5 a6
          have X7 := X4
          have Y7 := Y4
          have A7 := A4
          have B7 := B4
          obtain ⟨W7, hW7⟩ : ∃ W7, W7 = W4 := ⟨_, rfl⟩
          rw [← hW7] at X7 Y7 A7 B7 ⊢
          clear hW7 X4 Y4 A4 B4
          have HS := Lib.hid (show ∀ w' : World, Below W7.heap.size W7 w' → (w'.cell? ⟨w2.heap.size, 0, none⟩ = some (.int .i64 z.n) ∧ w'.cell? ⟨w2.heap.size, 1, none⟩ = some (.int .i64 z.i) ∧ w'.cell? ⟨w2.heap.size, 2, none⟩ = some (.int .i64 z.h) ∧ w'.cell? ⟨w2.heap.size, 3, none⟩ = some (.bool z.s) ∧ w'.cell? ⟨w2.heap.size, 4, none⟩ = some (.int .i64 z.p) ∧ w'.cell? ⟨w2.heap.size, 5, none⟩ = some (.int .i64 z.b) ∧ w'.cell? ⟨w2.heap.size, 6, none⟩ = some (.int .i64 z.d) ∧ w'.cell? ⟨w3.heap.size, 0, none⟩ = some (.int .i64 z.n) ∧ w'.cell? ⟨w3.heap.size, 1, none⟩ = some (.int .i64 z.i) ∧ w'.cell? ⟨w3.heap.size, 2, none⟩ = some (.int .i64 z.h) ∧ w'.cell? ⟨w3.heap.size, 3, none⟩ = some (.bool z.s) ∧ w'.cell? ⟨w3.heap.size, 4, none⟩ = some (.int .i64 z.p) ∧ w'.cell? ⟨w3.heap.size, 5, none⟩ = some (.int .i64 z.b) ∧ w'.cell? ⟨w3.heap.size, 6, none⟩ = some (.int .i64 z.d) ∧ w'.cell? ⟨w.heap.size, 0, none⟩ = some (.int .i64 x.n) ∧ w'.cell? ⟨w.heap.size, 1, none⟩ = some (.int .i64 x.i) ∧ w'.cell? ⟨w.heap.size, 2, none⟩ = some (.int .i64 x.h) ∧ w'.cell? ⟨w.heap.size, 3, none⟩ = some (.bool x.s) ∧ w'.cell? ⟨w.heap.size, 4, none⟩ = some (.int .i64 x.p) ∧ w'.cell? ⟨w.heap.size, 5, none⟩ = some (.int .i64 x.b) ∧ w'.cell? ⟨w.heap.size, 6, none⟩ = some (.int .i64 x.d)) from fun w' hb => by
            obtain ⟨i0, i1, i2, i3, i4, i5, i6⟩ := (X7.step hb).cells
            obtain ⟨j0, j1, j2, j3, j4, j5, j6⟩ := (Y7.step hb).cells
            obtain ⟨k0, k1, k2, k3, k4, k5, k6⟩ := (A7.step hb).cells
            exact ⟨i0, i1, i2, i3, i4, i5, i6, j0, j1, j2, j3, j4, j5, j6, k0, k1, k2, k3, k4, k5, k6⟩)
          obtain ⟨k0, k1, k2, k3, k4, k5, k6, k7, k8, k9, k10, k11, k12, k13, k14, k15, k16, k17, k18, k19, k20⟩ := HS.out W7 (Below.refl _ _)
          go_region_held3 (fun w' => w'.cell? ⟨w2.heap.size, 0, none⟩ = some (.int .i64 z.n) ∧ w'.cell? ⟨w2.heap.size, 1, none⟩ = some (.int .i64 z.i) ∧ w'.cell? ⟨w2.heap.size, 2, none⟩ = some (.int .i64 z.h) ∧ w'.cell? ⟨w2.heap.size, 3, none⟩ = some (.bool z.s) ∧ w'.cell? ⟨w2.heap.size, 4, none⟩ = some (.int .i64 z.p) ∧ w'.cell? ⟨w2.heap.size, 5, none⟩ = some (.int .i64 z.b) ∧ w'.cell? ⟨w2.heap.size, 6, none⟩ = some (.int .i64 z.d) ∧ w'.cell? ⟨w3.heap.size, 0, none⟩ = some (.int .i64 z.n) ∧ w'.cell? ⟨w3.heap.size, 1, none⟩ = some (.int .i64 z.i) ∧ w'.cell? ⟨w3.heap.size, 2, none⟩ = some (.int .i64 z.h) ∧ w'.cell? ⟨w3.heap.size, 3, none⟩ = some (.bool z.s) ∧ w'.cell? ⟨w3.heap.size, 4, none⟩ = some (.int .i64 z.p) ∧ w'.cell? ⟨w3.heap.size, 5, none⟩ = some (.int .i64 z.b) ∧ w'.cell? ⟨w3.heap.size, 6, none⟩ = some (.int .i64 z.d) ∧ w'.cell? ⟨w.heap.size, 0, none⟩ = some (.int .i64 x.n) ∧ w'.cell? ⟨w.heap.size, 1, none⟩ = some (.int .i64 x.i) ∧ w'.cell? ⟨w.heap.size, 2, none⟩ = some (.int .i64 x.h) ∧ w'.cell? ⟨w.heap.size, 3, none⟩ = some (.bool x.s) ∧ w'.cell? ⟨w.heap.size, 4, none⟩ = some (.int .i64 x.p) ∧ w'.cell? ⟨w.heap.size, 5, none⟩ = some (.int .i64 x.b) ∧ w'.cell? ⟨w.heap.size, 6, none⟩ = some (.int .i64 x.d))
            (first | exact ⟨k0, k1, k2, k3, k4, k5, k6, k7, k8, k9, k10, k11, k12, k13, k14, k15, k16, k17, k18, k19, k20⟩ | exact HS.out _ (by (repeat (first | with_reducible assumption | with_reducible exact Below.refl _ _ | with_reducible refine Below.drew ?_ | with_reducible refine below_drewN ?_ _))))
            (first
              | (go_at_call 16; refine (check_any x.n x.i x.h x.s x.p x.b x.d _).mono ?_; rintro e v1 ⟨rfl, hv1⟩; have Q1 : Below W7.heap.size W7 v1 := below_step (by (repeat (first | with_reducible assumption | with_reducible exact Below.refl _ _ | with_reducible refine Below.drew ?_ | with_reducible refine below_drewN ?_ _))) hv1; clear hv1)
              | (go_at_call 30; refine (refCheck_any x.n x.i x.h x.s x.p x.b x.d _).mono ?_; rintro e v2 ⟨rfl, hv2⟩; have Q2 : Below W7.heap.size W7 v2 := below_step (by (repeat (first | with_reducible assumption | with_reducible exact Below.refl _ _ | with_reducible refine Below.drew ?_ | with_reducible refine below_drewN ?_ _))) hv2; clear hv2)
              | (go_at_call 13; refine (free_any x.n x.i x.h x.s x.p x.b x.d _).mono ?_; rintro e v3 ⟨rfl, hv3⟩; have Q3 : Below W7.heap.size W7 v3 := below_step (by (repeat (first | with_reducible assumption | with_reducible exact Below.refl _ _ | with_reducible refine Below.drew ?_ | with_reducible refine below_drewN ?_ _))) hv3; clear hv3)
              | (go_at_call 31; refine (refFree_any x.n x.i x.h x.s x.p x.b x.d _).mono ?_; rintro e v4 ⟨rfl, hv4⟩; have Q4 : Below W7.heap.size W7 v4 := below_step (by (repeat (first | with_reducible assumption | with_reducible exact Below.refl _ _ | with_reducible refine Below.drew ?_ | with_reducible refine below_drewN ?_ _))) hv4; clear hv4)
              | (go_at_call 17; refine (bal_any x.n x.i x.h x.s x.p x.b x.d _).mono ?_; rintro e v5 ⟨rfl, hv5⟩; have Q5 : Below W7.heap.size W7 v5 := below_step (by (repeat (first | with_reducible assumption | with_reducible exact Below.refl _ _ | with_reducible refine Below.drew ?_ | with_reducible refine below_drewN ?_ _))) hv5; clear hv5)
              | (go_at_call 32; refine (refBal_any x.n x.i x.h x.s x.p x.b x.d _).mono ?_; rintro e v6 ⟨rfl, hv6⟩; have Q6 : Below W7.heap.size W7 v6 := below_step (by (repeat (first | with_reducible assumption | with_reducible exact Below.refl _ _ | with_reducible refine Below.drew ?_ | with_reducible refine below_drewN ?_ _))) hv6; clear hv6))
          have X8 := X7.step Q6
          have Y8 := Y7.step Q6
          have A8 := A7.step Q6
          have B8 := below_step B7 Q6
          clear X7 Y7 A7 B7 HS k0 k1 k2 k3 k4 k5 k6 k7 k8 k9 k10 k11 k12 k13 k14 k15 k16 k17 k18 k19 k20
          obtain ⟨yc0, yc1, yc2, yc3, yc4, yc5, yc6⟩ := AccAt.cells Y8
          obtain ⟨ac0, ac1, ac2, ac3, ac4, ac5, ac6⟩ := AccAt.cells A8
          obtain ⟨af0, af1, af2, af3, af4, af5, af6⟩ := AccAt.frees A8
          go_wp2_with fail
          go_roundw
          case rel => exact ⟨k + 1, z, by go_num, by omega, put7 A8, below7 (below_step hB B8) (by omega)⟩
          case measure => simp [intOf]; omega
        · clear o3
          go_wp2_with fail
          clear o0
          refine (holdOp_any x.n x.i x.h x.s x.p x.b x.d v _).mono ?_; rintro e w5 ⟨rfl, hb5⟩
          obtain ⟨y, er, hr⟩ : ∃ y er, holdR ⟨x.n, x.i, x.h, x.s, x.p, x.b, x.d⟩ v = (y, er) := ⟨_, _, rfl⟩
          have HR := Lib.hid hr
          clear hr
          rw [HR.out, resV_eq]
          have X5 := X4.step hb5
          have Y5 := Y4.step hb5
          have A5 := A4.step hb5
          have B5 := below_step B4 hb5
          clear a0 a1 a2 a3 a4 a5 a6
          obtain ⟨a0, a1, a2, a3, a4, a5, a6⟩ := AccAt.cells A5
          obtain ⟨xc0, xc1, xc2, xc3, xc4, xc5, xc6⟩ := AccAt.cells X5
          obtain ⟨xf0, xf1, xf2, xf3, xf4, xf5, xf6⟩ := AccAt.frees X5
          clear X4 Y4 A4 hb5
          go_wp2_with fail
          refine (refHold_any x.n x.i x.h x.s x.p x.b x.d v _).mono ?_; rintro e w6 ⟨rfl, hb6⟩
          rw [HR.out, resV_eq]
          clear a0 a1 a2 a3 a4 a5 a6 xc0 xc1 xc2 xc3 xc4 xc5 xc6 xf0 xf1 xf2 xf3 xf4 xf5 xf6
          have X6 : AccAt w6 w2.heap.size y := (put7 (v0 := .int .i64 y.n) (v1 := .int .i64 y.i) (v2 := .int .i64 y.h) (v3 := .bool y.s) (v4 := .int .i64 y.p) (v5 := .int .i64 y.b) (v6 := .int .i64 y.d) X5).step hb6
          have Y6 : AccAt w6 w3.heap.size z := (far7 (v0 := .int .i64 y.n) (v1 := .int .i64 y.i) (v2 := .int .i64 y.h) (v3 := .bool y.s) (v4 := .int .i64 y.p) (v5 := .int .i64 y.b) (v6 := .int .i64 y.d) Y5 (by omega)).step hb6
          have A6 : AccAt w6 w.heap.size x := (far7 (v0 := .int .i64 y.n) (v1 := .int .i64 y.i) (v2 := .int .i64 y.h) (v3 := .bool y.s) (v4 := .int .i64 y.p) (v5 := .int .i64 y.b) (v6 := .int .i64 y.d) A5 (by omega)).step hb6
          have B6 : Below wr.heap.size wr w6 := below_step (below7 B5 (by omega)) hb6
          clear X5 Y5 A5 B5 hb6
          obtain ⟨yc0, yc1, yc2, yc3, yc4, yc5, yc6⟩ := AccAt.cells Y6
          obtain ⟨yf0, yf1, yf2, yf3, yf4, yf5, yf6⟩ := AccAt.frees Y6
          go_upto_region 19 with fail
          clear yc0 yc1 yc2 yc3 yc4 yc5 yc6 yf0 yf1 yf2 yf3 yf4 yf5 yf6
          have X7 : AccAt (((((((w6.setCell ⟨w3.heap.size, 0, none⟩ (.int .i64 y.n)).setCell ⟨w3.heap.size, 1, none⟩ (.int .i64 y.i)).setCell ⟨w3.heap.size, 2, none⟩ (.int .i64 y.h)).setCell ⟨w3.heap.size, 3, none⟩ (.bool y.s)).setCell ⟨w3.heap.size, 4, none⟩ (.int .i64 y.p)).setCell ⟨w3.heap.size, 5, none⟩ (.int .i64 y.b)).setCell ⟨w3.heap.size, 6, none⟩ (.int .i64 y.d)) w2.heap.size y := far7 X6 (by omega)
          have Y7 : AccAt (((((((w6.setCell ⟨w3.heap.size, 0, none⟩ (.int .i64 y.n)).setCell ⟨w3.heap.size, 1, none⟩ (.int .i64 y.i)).setCell ⟨w3.heap.size, 2, none⟩ (.int .i64 y.h)).setCell ⟨w3.heap.size, 3, none⟩ (.bool y.s)).setCell ⟨w3.heap.size, 4, none⟩ (.int .i64 y.p)).setCell ⟨w3.heap.size, 5, none⟩ (.int .i64 y.b)).setCell ⟨w3.heap.size, 6, none⟩ (.int .i64 y.d)) w3.heap.size y := put7 Y6
          have A7 : AccAt (((((((w6.setCell ⟨w3.heap.size, 0, none⟩ (.int .i64 y.n)).setCell ⟨w3.heap.size, 1, none⟩ (.int .i64 y.i)).setCell ⟨w3.heap.size, 2, none⟩ (.int .i64 y.h)).setCell ⟨w3.heap.size, 3, none⟩ (.bool y.s)).setCell ⟨w3.heap.size, 4, none⟩ (.int .i64 y.p)).setCell ⟨w3.heap.size, 5, none⟩ (.int .i64 y.b)).setCell ⟨w3.heap.size, 6, none⟩ (.int .i64 y.d)) w.heap.size x := far7 A6 (by omega)
          have B7 : Below wr.heap.size wr (((((((w6.setCell ⟨w3.heap.size, 0, none⟩ (.int .i64 y.n)).setCell ⟨w3.heap.size, 1, none⟩ (.int .i64 y.i)).setCell ⟨w3.heap.size, 2, none⟩ (.int .i64 y.h)).setCell ⟨w3.heap.size, 3, none⟩ (.bool y.s)).setCell ⟨w3.heap.size, 4, none⟩ (.int .i64 y.p)).setCell ⟨w3.heap.size, 5, none⟩ (.int .i64 y.b)).setCell ⟨w3.heap.size, 6, none⟩ (.int .i64 y.d)) := below7 B6 (by omega)
          obtain ⟨W7, hW7⟩ : ∃ W7, W7 = (((((((w6.setCell ⟨w3.heap.size, 0, none⟩ (.int .i64 y.n)).setCell ⟨w3.heap.size, 1, none⟩ (.int .i64 y.i)).setCell ⟨w3.heap.size, 2, none⟩ (.int .i64 y.h)).setCell ⟨w3.heap.size, 3, none⟩ (.bool y.s)).setCell ⟨w3.heap.size, 4, none⟩ (.int .i64 y.p)).setCell ⟨w3.heap.size, 5, none⟩ (.int .i64 y.b)).setCell ⟨w3.heap.size, 6, none⟩ (.int .i64 y.d)) := ⟨_, rfl⟩
          rw [← hW7] at X7 Y7 A7 B7 ⊢
          clear hW7 X6 Y6 A6 B6
          have HS := Lib.hid (show ∀ w' : World, Below W7.heap.size W7 w' → (w'.cell? ⟨w2.heap.size, 0, none⟩ = some (.int .i64 y.n) ∧ w'.cell? ⟨w2.heap.size, 1, none⟩ = some (.int .i64 y.i) ∧ w'.cell? ⟨w2.heap.size, 2, none⟩ = some (.int .i64 y.h) ∧ w'.cell? ⟨w2.heap.size, 3, none⟩ = some (.bool y.s) ∧ w'.cell? ⟨w2.heap.size, 4, none⟩ = some (.int .i64 y.p) ∧ w'.cell? ⟨w2.heap.size, 5, none⟩ = some (.int .i64 y.b) ∧ w'.cell? ⟨w2.heap.size, 6, none⟩ = some (.int .i64 y.d) ∧ w'.cell? ⟨w3.heap.size, 0, none⟩ = some (.int .i64 y.n) ∧ w'.cell? ⟨w3.heap.size, 1, none⟩ = some (.int .i64 y.i) ∧ w'.cell? ⟨w3.heap.size, 2, none⟩ = some (.int .i64 y.h) ∧ w'.cell? ⟨w3.heap.size, 3, none⟩ = some (.bool y.s) ∧ w'.cell? ⟨w3.heap.size, 4, none⟩ = some (.int .i64 y.p) ∧ w'.cell? ⟨w3.heap.size, 5, none⟩ = some (.int .i64 y.b) ∧ w'.cell? ⟨w3.heap.size, 6, none⟩ = some (.int .i64 y.d) ∧ w'.cell? ⟨w.heap.size, 0, none⟩ = some (.int .i64 x.n) ∧ w'.cell? ⟨w.heap.size, 1, none⟩ = some (.int .i64 x.i) ∧ w'.cell? ⟨w.heap.size, 2, none⟩ = some (.int .i64 x.h) ∧ w'.cell? ⟨w.heap.size, 3, none⟩ = some (.bool x.s) ∧ w'.cell? ⟨w.heap.size, 4, none⟩ = some (.int .i64 x.p) ∧ w'.cell? ⟨w.heap.size, 5, none⟩ = some (.int .i64 x.b) ∧ w'.cell? ⟨w.heap.size, 6, none⟩ = some (.int .i64 x.d)) from fun w' hb => by
            obtain ⟨i0, i1, i2, i3, i4, i5, i6⟩ := (X7.step hb).cells
            obtain ⟨j0, j1, j2, j3, j4, j5, j6⟩ := (Y7.step hb).cells
            obtain ⟨k0, k1, k2, k3, k4, k5, k6⟩ := (A7.step hb).cells
            exact ⟨i0, i1, i2, i3, i4, i5, i6, j0, j1, j2, j3, j4, j5, j6, k0, k1, k2, k3, k4, k5, k6⟩)
          obtain ⟨k0, k1, k2, k3, k4, k5, k6, k7, k8, k9, k10, k11, k12, k13, k14, k15, k16, k17, k18, k19, k20⟩ := HS.out W7 (Below.refl _ _)
          go_region_held3 (fun w' => w'.cell? ⟨w2.heap.size, 0, none⟩ = some (.int .i64 y.n) ∧ w'.cell? ⟨w2.heap.size, 1, none⟩ = some (.int .i64 y.i) ∧ w'.cell? ⟨w2.heap.size, 2, none⟩ = some (.int .i64 y.h) ∧ w'.cell? ⟨w2.heap.size, 3, none⟩ = some (.bool y.s) ∧ w'.cell? ⟨w2.heap.size, 4, none⟩ = some (.int .i64 y.p) ∧ w'.cell? ⟨w2.heap.size, 5, none⟩ = some (.int .i64 y.b) ∧ w'.cell? ⟨w2.heap.size, 6, none⟩ = some (.int .i64 y.d) ∧ w'.cell? ⟨w3.heap.size, 0, none⟩ = some (.int .i64 y.n) ∧ w'.cell? ⟨w3.heap.size, 1, none⟩ = some (.int .i64 y.i) ∧ w'.cell? ⟨w3.heap.size, 2, none⟩ = some (.int .i64 y.h) ∧ w'.cell? ⟨w3.heap.size, 3, none⟩ = some (.bool y.s) ∧ w'.cell? ⟨w3.heap.size, 4, none⟩ = some (.int .i64 y.p) ∧ w'.cell? ⟨w3.heap.size, 5, none⟩ = some (.int .i64 y.b) ∧ w'.cell? ⟨w3.heap.size, 6, none⟩ = some (.int .i64 y.d) ∧ w'.cell? ⟨w.heap.size, 0, none⟩ = some (.int .i64 x.n) ∧ w'.cell? ⟨w.heap.size, 1, none⟩ = some (.int .i64 x.i) ∧ w'.cell? ⟨w.heap.size, 2, none⟩ = some (.int .i64 x.h) ∧ w'.cell? ⟨w.heap.size, 3, none⟩ = some (.bool x.s) ∧ w'.cell? ⟨w.heap.size, 4, none⟩ = some (.int .i64 x.p) ∧ w'.cell? ⟨w.heap.size, 5, none⟩ = some (.int .i64 x.b) ∧ w'.cell? ⟨w.heap.size, 6, none⟩ = some (.int .i64 x.d))
            (first | exact ⟨k0, k1, k2, k3, k4, k5, k6, k7, k8, k9, k10, k11, k12, k13, k14, k15, k16, k17, k18, k19, k20⟩ | exact HS.out _ (by (repeat (first | with_reducible assumption | with_reducible exact Below.refl _ _ | with_reducible refine Below.drew ?_ | with_reducible refine below_drewN ?_ _))))
            (first
              | (go_at_call 16; refine (check_any x.n x.i x.h x.s x.p x.b x.d _).mono ?_; rintro e v1 ⟨rfl, hv1⟩; have Q1 : Below W7.heap.size W7 v1 := below_step (by (repeat (first | with_reducible assumption | with_reducible exact Below.refl _ _ | with_reducible refine Below.drew ?_ | with_reducible refine below_drewN ?_ _))) hv1; clear hv1)
              | (go_at_call 30; refine (refCheck_any x.n x.i x.h x.s x.p x.b x.d _).mono ?_; rintro e v2 ⟨rfl, hv2⟩; have Q2 : Below W7.heap.size W7 v2 := below_step (by (repeat (first | with_reducible assumption | with_reducible exact Below.refl _ _ | with_reducible refine Below.drew ?_ | with_reducible refine below_drewN ?_ _))) hv2; clear hv2)
              | (go_at_call 13; refine (free_any x.n x.i x.h x.s x.p x.b x.d _).mono ?_; rintro e v3 ⟨rfl, hv3⟩; have Q3 : Below W7.heap.size W7 v3 := below_step (by (repeat (first | with_reducible assumption | with_reducible exact Below.refl _ _ | with_reducible refine Below.drew ?_ | with_reducible refine below_drewN ?_ _))) hv3; clear hv3)
              | (go_at_call 31; refine (refFree_any x.n x.i x.h x.s x.p x.b x.d _).mono ?_; rintro e v4 ⟨rfl, hv4⟩; have Q4 : Below W7.heap.size W7 v4 := below_step (by (repeat (first | with_reducible assumption | with_reducible exact Below.refl _ _ | with_reducible refine Below.drew ?_ | with_reducible refine below_drewN ?_ _))) hv4; clear hv4)
              | (go_at_call 17; refine (bal_any x.n x.i x.h x.s x.p x.b x.d _).mono ?_; rintro e v5 ⟨rfl, hv5⟩; have Q5 : Below W7.heap.size W7 v5 := below_step (by (repeat (first | with_reducible assumption | with_reducible exact Below.refl _ _ | with_reducible refine Below.drew ?_ | with_reducible refine below_drewN ?_ _))) hv5; clear hv5)
              | (go_at_call 32; refine (refBal_any x.n x.i x.h x.s x.p x.b x.d _).mono ?_; rintro e v6 ⟨rfl, hv6⟩; have Q6 : Below W7.heap.size W7 v6 := below_step (by (repeat (first | with_reducible assumption | with_reducible exact Below.refl _ _ | with_reducible refine Below.drew ?_ | with_reducible refine below_drewN ?_ _))) hv6; clear hv6))
          have X8 := X7.step Q6
          have Y8 := Y7.step Q6
          have A8 := A7.step Q6
          have B8 := below_step B7 Q6
          clear X7 Y7 A7 B7 HS k0 k1 k2 k3 k4 k5 k6 k7 k8 k9 k10 k11 k12 k13 k14 k15 k16 k17 k18 k19 k20
          obtain ⟨yc0, yc1, yc2, yc3, yc4, yc5, yc6⟩ := AccAt.cells Y8
          obtain ⟨ac0, ac1, ac2, ac3, ac4, ac5, ac6⟩ := AccAt.cells A8
          obtain ⟨af0, af1, af2, af3, af4, af5, af6⟩ := AccAt.frees A8
          go_wp2_with fail
          go_roundw
          case rel => exact ⟨k + 1, y, by go_num, by omega, put7 A8, below7 (below_step hB B8) (by omega)⟩
          case measure => simp [intOf]; omega
        · clear o3
          go_wp2_with fail
          clear o0
          refine (letOp_any x.n x.i x.h x.s x.p x.b x.d v _).mono ?_; rintro e w5 ⟨rfl, hb5⟩
          obtain ⟨y, er, hr⟩ : ∃ y er, letR ⟨x.n, x.i, x.h, x.s, x.p, x.b, x.d⟩ v = (y, er) := ⟨_, _, rfl⟩
          have HR := Lib.hid hr
          clear hr
          rw [HR.out, resV_eq]
          have X5 := X4.step hb5
          have Y5 := Y4.step hb5
          have A5 := A4.step hb5
          have B5 := below_step B4 hb5
          clear a0 a1 a2 a3 a4 a5 a6
          obtain ⟨a0, a1, a2, a3, a4, a5, a6⟩ := AccAt.cells A5
          obtain ⟨xc0, xc1, xc2, xc3, xc4, xc5, xc6⟩ := AccAt.cells X5
          obtain ⟨xf0, xf1, xf2, xf3, xf4, xf5, xf6⟩ := AccAt.frees X5
          clear X4 Y4 A4 hb5
          go_wp2_with fail
          refine (refLet_any x.n x.i x.h x.s x.p x.b x.d v _).mono ?_; rintro e w6 ⟨rfl, hb6⟩
          rw [HR.out, resV_eq]
          clear a0 a1 a2 a3 a4 a5 a6 xc0 xc1 xc2 xc3 xc4 xc5 xc6 xf0 xf1 xf2 xf3 xf4 xf5 xf6
          have X6 : AccAt w6 w2.heap.size y := (put7 (v0 := .int .i64 y.n) (v1 := .int .i64 y.i) (v2 := .int .i64 y.h) (v3 := .bool y.s) (v4 := .int .i64 y.p) (v5 := .int .i64 y.b) (v6 := .int .i64 y.d) X5).step hb6
          have Y6 : AccAt w6 w3.heap.size z := (far7 (v0 := .int .i64 y.n) (v1 := .int .i64 y.i) (v2 := .int .i64 y.h) (v3 := .bool y.s) (v4 := .int .i64 y.p) (v5 := .int .i64 y.b) (v6 := .int .i64 y.d) Y5 (by omega)).step hb6
          have A6 : AccAt w6 w.heap.size x := (far7 (v0 := .int .i64 y.n) (v1 := .int .i64 y.i) (v2 := .int .i64 y.h) (v3 := .bool y.s) (v4 := .int .i64 y.p) (v5 := .int .i64 y.b) (v6 := .int .i64 y.d) A5 (by omega)).step hb6
          have B6 : Below wr.heap.size wr w6 := below_step (below7 B5 (by omega)) hb6
          clear X5 Y5 A5 B5 hb6
          obtain ⟨yc0, yc1, yc2, yc3, yc4, yc5, yc6⟩ := AccAt.cells Y6
          obtain ⟨yf0, yf1, yf2, yf3, yf4, yf5, yf6⟩ := AccAt.frees Y6
          go_upto_region 19 with fail
          clear yc0 yc1 yc2 yc3 yc4 yc5 yc6 yf0 yf1 yf2 yf3 yf4 yf5 yf6
          have X7 : AccAt (((((((w6.setCell ⟨w3.heap.size, 0, none⟩ (.int .i64 y.n)).setCell ⟨w3.heap.size, 1, none⟩ (.int .i64 y.i)).setCell ⟨w3.heap.size, 2, none⟩ (.int .i64 y.h)).setCell ⟨w3.heap.size, 3, none⟩ (.bool y.s)).setCell ⟨w3.heap.size, 4, none⟩ (.int .i64 y.p)).setCell ⟨w3.heap.size, 5, none⟩ (.int .i64 y.b)).setCell ⟨w3.heap.size, 6, none⟩ (.int .i64 y.d)) w2.heap.size y := far7 X6 (by omega)
          have Y7 : AccAt (((((((w6.setCell ⟨w3.heap.size, 0, none⟩ (.int .i64 y.n)).setCell ⟨w3.heap.size, 1, none⟩ (.int .i64 y.i)).setCell ⟨w3.heap.size, 2, none⟩ (.int .i64 y.h)).setCell ⟨w3.heap.size, 3, none⟩ (.bool y.s)).setCell ⟨w3.heap.size, 4, none⟩ (.int .i64 y.p)).setCell ⟨w3.heap.size, 5, none⟩ (.int .i64 y.b)).setCell ⟨w3.heap.size, 6, none⟩ (.int .i64 y.d)) w3.heap.size y := put7 Y6
          have A7 : AccAt (((((((w6.setCell ⟨w3.heap.size, 0, none⟩ (.int .i64 y.n)).setCell ⟨w3.heap.size, 1, none⟩ (.int .i64 y.i)).setCell ⟨w3.heap.size, 2, none⟩ (.int .i64 y.h)).setCell ⟨w3.heap.size, 3, none⟩ (.bool y.s)).setCell ⟨w3.heap.size, 4, none⟩ (.int .i64 y.p)).setCell ⟨w3.heap.size, 5, none⟩ (.int .i64 y.b)).setCell ⟨w3.heap.size, 6, none⟩ (.int .i64 y.d)) w.heap.size x := far7 A6 (by omega)
          have B7 : Below wr.heap.size wr (((((((w6.setCell ⟨w3.heap.size, 0, none⟩ (.int .i64 y.n)).setCell ⟨w3.heap.size, 1, none⟩ (.int .i64 y.i)).setCell ⟨w3.heap.size, 2, none⟩ (.int .i64 y.h)).setCell ⟨w3.heap.size, 3, none⟩ (.bool y.s)).setCell ⟨w3.heap.size, 4, none⟩ (.int .i64 y.p)).setCell ⟨w3.heap.size, 5, none⟩ (.int .i64 y.b)).setCell ⟨w3.heap.size, 6, none⟩ (.int .i64 y.d)) := below7 B6 (by omega)
          obtain ⟨W7, hW7⟩ : ∃ W7, W7 = (((((((w6.setCell ⟨w3.heap.size, 0, none⟩ (.int .i64 y.n)).setCell ⟨w3.heap.size, 1, none⟩ (.int .i64 y.i)).setCell ⟨w3.heap.size, 2, none⟩ (.int .i64 y.h)).setCell ⟨w3.heap.size, 3, none⟩ (.bool y.s)).setCell ⟨w3.heap.size, 4, none⟩ (.int .i64 y.p)).setCell ⟨w3.heap.size, 5, none⟩ (.int .i64 y.b)).setCell ⟨w3.heap.size, 6, none⟩ (.int .i64 y.d)) := ⟨_, rfl⟩
          rw [← hW7] at X7 Y7 A7 B7 ⊢
          clear hW7 X6 Y6 A6 B6
          have HS := Lib.hid (show ∀ w' : World, Below W7.heap.size W7 w' → (w'.cell? ⟨w2.heap.size, 0, none⟩ = some (.int .i64 y.n) ∧ w'.cell? ⟨w2.heap.size, 1, none⟩ = some (.int .i64 y.i) ∧ w'.cell? ⟨w2.heap.size, 2, none⟩ = some (.int .i64 y.h) ∧ w'.cell? ⟨w2.heap.size, 3, none⟩ = some (.bool y.s) ∧ w'.cell? ⟨w2.heap.size, 4, none⟩ = some (.int .i64 y.p) ∧ w'.cell? ⟨w2.heap.size, 5, none⟩ = some (.int .i64 y.b) ∧ w'.cell? ⟨w2.heap.size, 6, none⟩ = some (.int .i64 y.d) ∧ w'.cell? ⟨w3.heap.size, 0, none⟩ = some (.int .i64 y.n) ∧ w'.cell? ⟨w3.heap.size, 1, none⟩ = some (.int .i64 y.i) ∧ w'.cell? ⟨w3.heap.size, 2, none⟩ = some (.int .i64 y.h) ∧ w'.cell? ⟨w3.heap.size, 3, none⟩ = some (.bool y.s) ∧ w'.cell? ⟨w3.heap.size, 4, none⟩ = some (.int .i64 y.p) ∧ w'.cell? ⟨w3.heap.size, 5, none⟩ = some (.int .i64 y.b) ∧ w'.cell? ⟨w3.heap.size, 6, none⟩ = some (.int .i64 y.d) ∧ w'.cell? ⟨w.heap.size, 0, none⟩ = some (.int .i64 x.n) ∧ w'.cell? ⟨w.heap.size, 1, none⟩ = some (.int .i64 x.i) ∧ w'.cell? ⟨w.heap.size, 2, none⟩ = some (.int .i64 x.h) ∧ w'.cell? ⟨w.heap.size, 3, none⟩ = some (.bool x.s) ∧ w'.cell? ⟨w.heap.size, 4, none⟩ = some (.int .i64 x.p) ∧ w'.cell? ⟨w.heap.size, 5, none⟩ = some (.int .i64 x.b) ∧ w'.cell? ⟨w.heap.size, 6, none⟩ = some (.int .i64 x.d)) from fun w' hb => by
            obtain ⟨i0, i1, i2, i3, i4, i5, i6⟩ := (X7.step hb).cells
            obtain ⟨j0, j1, j2, j3, j4, j5, j6⟩ := (Y7.step hb).cells
            obtain ⟨k0, k1, k2, k3, k4, k5, k6⟩ := (A7.step hb).cells
            exact ⟨i0, i1, i2, i3, i4, i5, i6, j0, j1, j2, j3, j4, j5, j6, k0, k1, k2, k3, k4, k5, k6⟩)
          obtain ⟨k0, k1, k2, k3, k4, k5, k6, k7, k8, k9, k10, k11, k12, k13, k14, k15, k16, k17, k18, k19, k20⟩ := HS.out W7 (Below.refl _ _)
          go_region_held3 (fun w' => w'.cell? ⟨w2.heap.size, 0, none⟩ = some (.int .i64 y.n) ∧ w'.cell? ⟨w2.heap.size, 1, none⟩ = some (.int .i64 y.i) ∧ w'.cell? ⟨w2.heap.size, 2, none⟩ = some (.int .i64 y.h) ∧ w'.cell? ⟨w2.heap.size, 3, none⟩ = some (.bool y.s) ∧ w'.cell? ⟨w2.heap.size, 4, none⟩ = some (.int .i64 y.p) ∧ w'.cell? ⟨w2.heap.size, 5, none⟩ = some (.int .i64 y.b) ∧ w'.cell? ⟨w2.heap.size, 6, none⟩ = some (.int .i64 y.d) ∧ w'.cell? ⟨w3.heap.size, 0, none⟩ = some (.int .i64 y.n) ∧ w'.cell? ⟨w3.heap.size, 1, none⟩ = some (.int .i64 y.i) ∧ w'.cell? ⟨w3.heap.size, 2, none⟩ = some (.int .i64 y.h) ∧ w'.cell? ⟨w3.heap.size, 3, none⟩ = some (.bool y.s) ∧ w'.cell? ⟨w3.heap.size, 4, none⟩ = some (.int .i64 y.p) ∧ w'.cell? ⟨w3.heap.size, 5, none⟩ = some (.int .i64 y.b) ∧ w'.cell? ⟨w3.heap.size, 6, none⟩ = some (.int .i64 y.d) ∧ w'.cell? ⟨w.heap.size, 0, none⟩ = some (.int .i64 x.n) ∧ w'.cell? ⟨w.heap.size, 1, none⟩ = some (.int .i64 x.i) ∧ w'.cell? ⟨w.heap.size, 2, none⟩ = some (.int .i64 x.h) ∧ w'.cell? ⟨w.heap.size, 3, none⟩ = some (.bool x.s) ∧ w'.cell? ⟨w.heap.size, 4, none⟩ = some (.int .i64 x.p) ∧ w'.cell? ⟨w.heap.size, 5, none⟩ = some (.int .i64 x.b) ∧ w'.cell? ⟨w.heap.size, 6, none⟩ = some (.int .i64 x.d))
            (first | exact ⟨k0, k1, k2, k3, k4, k5, k6, k7, k8, k9, k10, k11, k12, k13, k14, k15, k16, k17, k18, k19, k20⟩ | exact HS.out _ (by (repeat (first | with_reducible assumption | with_reducible exact Below.refl _ _ | with_reducible refine Below.drew ?_ | with_reducible refine below_drewN ?_ _))))
            (first
              | (go_at_call 16; refine (check_any x.n x.i x.h x.s x.p x.b x.d _).mono ?_; rintro e v1 ⟨rfl, hv1⟩; have Q1 : Below W7.heap.size W7 v1 := below_step (by (repeat (first | with_reducible assumption | with_reducible exact Below.refl _ _ | with_reducible refine Below.drew ?_ | with_reducible refine below_drewN ?_ _))) hv1; clear hv1)
              | (go_at_call 30; refine (refCheck_any x.n x.i x.h x.s x.p x.b x.d _).mono ?_; rintro e v2 ⟨rfl, hv2⟩; have Q2 : Below W7.heap.size W7 v2 := below_step (by (repeat (first | with_reducible assumption | with_reducible exact Below.refl _ _ | with_reducible refine Below.drew ?_ | with_reducible refine below_drewN ?_ _))) hv2; clear hv2)
              | (go_at_call 13; refine (free_any x.n x.i x.h x.s x.p x.b x.d _).mono ?_; rintro e v3 ⟨rfl, hv3⟩; have Q3 : Below W7.heap.size W7 v3 := below_step (by (repeat (first | with_reducible assumption | with_reducible exact Below.refl _ _ | with_reducible refine Below.drew ?_ | with_reducible refine below_drewN ?_ _))) hv3; clear hv3)
              | (go_at_call 31; refine (refFree_any x.n x.i x.h x.s x.p x.b x.d _).mono ?_; rintro e v4 ⟨rfl, hv4⟩; have Q4 : Below W7.heap.size W7 v4 := below_step (by (repeat (first | with_reducible assumption | with_reducible exact Below.refl _ _ | with_reducible refine Below.drew ?_ | with_reducible refine below_drewN ?_ _))) hv4; clear hv4)
              | (go_at_call 17; refine (bal_any x.n x.i x.h x.s x.p x.b x.d _).mono ?_; rintro e v5 ⟨rfl, hv5⟩; have Q5 : Below W7.heap.size W7 v5 := below_step (by (repeat (first | with_reducible assumption | with_reducible exact Below.refl _ _ | with_reducible refine Below.drew ?_ | with_reducible refine below_drewN ?_ _))) hv5; clear hv5)
              | (go_at_call 32; refine (refBal_any x.n x.i x.h x.s x.p x.b x.d _).mono ?_; rintro e v6 ⟨rfl, hv6⟩; have Q6 : Below W7.heap.size W7 v6 := below_step (by (repeat (first | with_reducible assumption | with_reducible exact Below.refl _ _ | with_reducible refine Below.drew ?_ | with_reducible refine below_drewN ?_ _))) hv6; clear hv6))
          have X8 := X7.step Q6
          have Y8 := Y7.step Q6
          have A8 := A7.step Q6
          have B8 := below_step B7 Q6
          clear X7 Y7 A7 B7 HS k0 k1 k2 k3 k4 k5 k6 k7 k8 k9 k10 k11 k12 k13 k14 k15 k16 k17 k18 k19 k20
          obtain ⟨yc0, yc1, yc2, yc3, yc4, yc5, yc6⟩ := AccAt.cells Y8
          obtain ⟨ac0, ac1, ac2, ac3, ac4, ac5, ac6⟩ := AccAt.cells A8
          obtain ⟨af0, af1, af2, af3, af4, af5, af6⟩ := AccAt.frees A8
          go_wp2_with fail
          go_roundw
          case rel => exact ⟨k + 1, y, by go_num, by omega, put7 A8, below7 (below_step hB B8) (by omega)⟩
          case measure => simp [intOf]; omega
        · cases ends
          · go_wp2_with fail
            clear o0 o3
            refine (holdOp_any x.n x.i x.h x.s x.p x.b x.d v _).mono ?_; rintro e w5 ⟨rfl, hb5⟩
            obtain ⟨y, er, hr⟩ : ∃ y er, holdR ⟨x.n, x.i, x.h, x.s, x.p, x.b, x.d⟩ v = (y, er) := ⟨_, _, rfl⟩
            have HR := Lib.hid hr
            clear hr
            rw [HR.out, resV_eq]
            have X5 := X4.step hb5
            have Y5 := Y4.step hb5
            have A5 := A4.step hb5
            have B5 := below_step B4 hb5
            clear a0 a1 a2 a3 a4 a5 a6
            obtain ⟨a0, a1, a2, a3, a4, a5, a6⟩ := AccAt.cells A5
            obtain ⟨xc0, xc1, xc2, xc3, xc4, xc5, xc6⟩ := AccAt.cells X5
            obtain ⟨xf0, xf1, xf2, xf3, xf4, xf5, xf6⟩ := AccAt.frees X5
            clear X4 Y4 A4 hb5
            go_wp2_with fail
            refine (refHold_any x.n x.i x.h x.s x.p x.b x.d v _).mono ?_; rintro e w6 ⟨rfl, hb6⟩
            rw [HR.out, resV_eq]
            clear a0 a1 a2 a3 a4 a5 a6 xc0 xc1 xc2 xc3 xc4 xc5 xc6 xf0 xf1 xf2 xf3 xf4 xf5 xf6
            have X6 : AccAt w6 w2.heap.size y := (put7 (v0 := .int .i64 y.n) (v1 := .int .i64 y.i) (v2 := .int .i64 y.h) (v3 := .bool y.s) (v4 := .int .i64 y.p) (v5 := .int .i64 y.b) (v6 := .int .i64 y.d) X5).step hb6
            have Y6 : AccAt w6 w3.heap.size z := (far7 (v0 := .int .i64 y.n) (v1 := .int .i64 y.i) (v2 := .int .i64 y.h) (v3 := .bool y.s) (v4 := .int .i64 y.p) (v5 := .int .i64 y.b) (v6 := .int .i64 y.d) Y5 (by omega)).step hb6
            have A6 : AccAt w6 w.heap.size x := (far7 (v0 := .int .i64 y.n) (v1 := .int .i64 y.i) (v2 := .int .i64 y.h) (v3 := .bool y.s) (v4 := .int .i64 y.p) (v5 := .int .i64 y.b) (v6 := .int .i64 y.d) A5 (by omega)).step hb6
            have B6 : Below wr.heap.size wr w6 := below_step (below7 B5 (by omega)) hb6
            clear X5 Y5 A5 B5 hb6
            obtain ⟨yc0, yc1, yc2, yc3, yc4, yc5, yc6⟩ := AccAt.cells Y6
            obtain ⟨yf0, yf1, yf2, yf3, yf4, yf5, yf6⟩ := AccAt.frees Y6
            go_upto_region 19 with fail
            clear yc0 yc1 yc2 yc3 yc4 yc5 yc6 yf0 yf1 yf2 yf3 yf4 yf5 yf6
            have X7 : AccAt (((((((w6.setCell ⟨w3.heap.size, 0, none⟩ (.int .i64 y.n)).setCell ⟨w3.heap.size, 1, none⟩ (.int .i64 y.i)).setCell ⟨w3.heap.size, 2, none⟩ (.int .i64 y.h)).setCell ⟨w3.heap.size, 3, none⟩ (.bool y.s)).setCell ⟨w3.heap.size, 4, none⟩ (.int .i64 y.p)).setCell ⟨w3.heap.size, 5, none⟩ (.int .i64 y.b)).setCell ⟨w3.heap.size, 6, none⟩ (.int .i64 y.d)) w2.heap.size y := far7 X6 (by omega)
            have Y7 : AccAt (((((((w6.setCell ⟨w3.heap.size, 0, none⟩ (.int .i64 y.n)).setCell ⟨w3.heap.size, 1, none⟩ (.int .i64 y.i)).setCell ⟨w3.heap.size, 2, none⟩ (.int .i64 y.h)).setCell ⟨w3.heap.size, 3, none⟩ (.bool y.s)).setCell ⟨w3.heap.size, 4, none⟩ (.int .i64 y.p)).setCell ⟨w3.heap.size, 5, none⟩ (.int .i64 y.b)).setCell ⟨w3.heap.size, 6, none⟩ (.int .i64 y.d)) w3.heap.size y := put7 Y6
            have A7 : AccAt (((((((w6.setCell ⟨w3.heap.size, 0, none⟩ (.int .i64 y.n)).setCell ⟨w3.heap.size, 1, none⟩ (.int .i64 y.i)).setCell ⟨w3.heap.size, 2, none⟩ (.int .i64 y.h)).setCell ⟨w3.heap.size, 3, none⟩ (.bool y.s)).setCell ⟨w3.heap.size, 4, none⟩ (.int .i64 y.p)).setCell ⟨w3.heap.size, 5, none⟩ (.int .i64 y.b)).setCell ⟨w3.heap.size, 6, none⟩ (.int .i64 y.d)) w.heap.size x := far7 A6 (by omega)
            have B7 : Below wr.heap.size wr (((((((w6.setCell ⟨w3.heap.size, 0, none⟩ (.int .i64 y.n)).setCell ⟨w3.heap.size, 1, none⟩ (.int .i64 y.i)).setCell ⟨w3.heap.size, 2, none⟩ (.int .i64 y.h)).setCell ⟨w3.heap.size, 3, none⟩ (.bool y.s)).setCell ⟨w3.heap.size, 4, none⟩ (.int .i64 y.p)).setCell ⟨w3.heap.size, 5, none⟩ (.int .i64 y.b)).setCell ⟨w3.heap.size, 6, none⟩ (.int .i64 y.d)) := below7 B6 (by omega)
            obtain ⟨W7, hW7⟩ : ∃ W7, W7 = (((((((w6.setCell ⟨w3.heap.size, 0, none⟩ (.int .i64 y.n)).setCell ⟨w3.heap.size, 1, none⟩ (.int .i64 y.i)).setCell ⟨w3.heap.size, 2, none⟩ (.int .i64 y.h)).setCell ⟨w3.heap.size, 3, none⟩ (.bool y.s)).setCell ⟨w3.heap.size, 4, none⟩ (.int .i64 y.p)).setCell ⟨w3.heap.size, 5, none⟩ (.int .i64 y.b)).setCell ⟨w3.heap.size, 6, none⟩ (.int .i64 y.d)) := ⟨_, rfl⟩
            rw [← hW7] at X7 Y7 A7 B7 ⊢
            clear hW7 X6 Y6 A6 B6
            have HS := Lib.hid (show ∀ w' : World, Below W7.heap.size W7 w' → (w'.cell? ⟨w2.heap.size, 0, none⟩ = some (.int .i64 y.n) ∧ w'.cell? ⟨w2.heap.size, 1, none⟩ = some (.int .i64 y.i) ∧ w'.cell? ⟨w2.heap.size, 2, none⟩ = some (.int .i64 y.h) ∧ w'.cell? ⟨w2.heap.size, 3, none⟩ = some (.bool y.s) ∧ w'.cell? ⟨w2.heap.size, 4, none⟩ = some (.int .i64 y.p) ∧ w'.cell? ⟨w2.heap.size, 5, none⟩ = some (.int .i64 y.b) ∧ w'.cell? ⟨w2.heap.size, 6, none⟩ = some (.int .i64 y.d) ∧ w'.cell? ⟨w3.heap.size, 0, none⟩ = some (.int .i64 y.n) ∧ w'.cell? ⟨w3.heap.size, 1, none⟩ = some (.int .i64 y.i) ∧ w'.cell? ⟨w3.heap.size, 2, none⟩ = some (.int .i64 y.h) ∧ w'.cell? ⟨w3.heap.size, 3, none⟩ = some (.bool y.s) ∧ w'.cell? ⟨w3.heap.size, 4, none⟩ = some (.int .i64 y.p) ∧ w'.cell? ⟨w3.heap.size, 5, none⟩ = some (.int .i64 y.b) ∧ w'.cell? ⟨w3.heap.size, 6, none⟩ = some (.int .i64 y.d) ∧ w'.cell? ⟨w.heap.size, 0, none⟩ = some (.int .i64 x.n) ∧ w'.cell? ⟨w.heap.size, 1, none⟩ = some (.int .i64 x.i) ∧ w'.cell? ⟨w.heap.size, 2, none⟩ = some (.int .i64 x.h) ∧ w'.cell? ⟨w.heap.size, 3, none⟩ = some (.bool x.s) ∧ w'.cell? ⟨w.heap.size, 4, none⟩ = some (.int .i64 x.p) ∧ w'.cell? ⟨w.heap.size, 5, none⟩ = some (.int .i64 x.b) ∧ w'.cell? ⟨w.heap.size, 6, none⟩ = some (.int .i64 x.d)) from fun w' hb => by
              obtain ⟨i0, i1, i2, i3, i4, i5, i6⟩ := (X7.step hb).cells
              obtain ⟨j0, j1, j2, j3, j4, j5, j6⟩ := (Y7.step hb).cells
              obtain ⟨k0, k1, k2, k3, k4, k5, k6⟩ := (A7.step hb).cells
              exact ⟨i0, i1, i2, i3, i4, i5, i6, j0, j1, j2, j3, j4, j5, j6, k0, k1, k2, k3, k4, k5, k6⟩)
            obtain ⟨k0, k1, k2, k3, k4, k5, k6, k7, k8, k9, k10, k11, k12, k13, k14, k15, k16, k17, k18, k19, k20⟩ := HS.out W7 (Below.refl _ _)
            go_region_held3 (fun w' => w'.cell? ⟨w2.heap.size, 0, none⟩ = some (.int .i64 y.n) ∧ w'.cell? ⟨w2.heap.size, 1, none⟩ = some (.int .i64 y.i) ∧ w'.cell? ⟨w2.heap.size, 2, none⟩ = some (.int .i64 y.h) ∧ w'.cell? ⟨w2.heap.size, 3, none⟩ = some (.bool y.s) ∧ w'.cell? ⟨w2.heap.size, 4, none⟩ = some (.int .i64 y.p) ∧ w'.cell? ⟨w2.heap.size, 5, none⟩ = some (.int .i64 y.b) ∧ w'.cell? ⟨w2.heap.size, 6, none⟩ = some (.int .i64 y.d) ∧ w'.cell? ⟨w3.heap.size, 0, none⟩ = some (.int .i64 y.n) ∧ w'.cell? ⟨w3.heap.size, 1, none⟩ = some (.int .i64 y.i) ∧ w'.cell? ⟨w3.heap.size, 2, none⟩ = some (.int .i64 y.h) ∧ w'.cell? ⟨w3.heap.size, 3, none⟩ = some (.bool y.s) ∧ w'.cell? ⟨w3.heap.size, 4, none⟩ = some (.int .i64 y.p) ∧ w'.cell? ⟨w3.heap.size, 5, none⟩ = some (.int .i64 y.b) ∧ w'.cell? ⟨w3.heap.size, 6, none⟩ = some (.int .i64 y.d) ∧ w'.cell? ⟨w.heap.size, 0, none⟩ = some (.int .i64 x.n) ∧ w'.cell? ⟨w.heap.size, 1, none⟩ = some (.int .i64 x.i) ∧ w'.cell? ⟨w.heap.size, 2, none⟩ = some (.int .i64 x.h) ∧ w'.cell? ⟨w.heap.size, 3, none⟩ = some (.bool x.s) ∧ w'.cell? ⟨w.heap.size, 4, none⟩ = some (.int .i64 x.p) ∧ w'.cell? ⟨w.heap.size, 5, none⟩ = some (.int .i64 x.b) ∧ w'.cell? ⟨w.heap.size, 6, none⟩ = some (.int .i64 x.d))
              (first | exact ⟨k0, k1, k2, k3, k4, k5, k6, k7, k8, k9, k10, k11, k12, k13, k14, k15, k16, k17, k18, k19, k20⟩ | exact HS.out _ (by (repeat (first | with_reducible assumption | with_reducible exact Below.refl _ _ | with_reducible refine Below.drew ?_ | with_reducible refine below_drewN ?_ _))))
              (first
                | (go_at_call 16; refine (check_any x.n x.i x.h x.s x.p x.b x.d _).mono ?_; rintro e v1 ⟨rfl, hv1⟩; have Q1 : Below W7.heap.size W7 v1 := below_step (by (repeat (first | with_reducible assumption | with_reducible exact Below.refl _ _ | with_reducible refine Below.drew ?_ | with_reducible refine below_drewN ?_ _))) hv1; clear hv1)
                | (go_at_call 30; refine (refCheck_any x.n x.i x.h x.s x.p x.b x.d _).mono ?_; rintro e v2 ⟨rfl, hv2⟩; have Q2 : Below W7.heap.size W7 v2 := below_step (by (repeat (first | with_reducible assumption | with_reducible exact Below.refl _ _ | with_reducible refine Below.drew ?_ | with_reducible refine below_drewN ?_ _))) hv2; clear hv2)
                | (go_at_call 13; refine (free_any x.n x.i x.h x.s x.p x.b x.d _).mono ?_; rintro e v3 ⟨rfl, hv3⟩; have Q3 : Below W7.heap.size W7 v3 := below_step (by (repeat (first | with_reducible assumption | with_reducible exact Below.refl _ _ | with_reducible refine Below.drew ?_ | with_reducible refine below_drewN ?_ _))) hv3; clear hv3)
                | (go_at_call 31; refine (refFree_any x.n x.i x.h x.s x.p x.b x.d _).mono ?_; rintro e v4 ⟨rfl, hv4⟩; have Q4 : Below W7.heap.size W7 v4 := below_step (by (repeat (first | with_reducible assumption | with_reducible exact Below.refl _ _ | with_reducible refine Below.drew ?_ | with_reducible refine below_drewN ?_ _))) hv4; clear hv4)
                | (go_at_call 17; refine (bal_any x.n x.i x.h x.s x.p x.b x.d _).mono ?_; rintro e v5 ⟨rfl, hv5⟩; have Q5 : Below W7.heap.size W7 v5 := below_step (by (repeat (first | with_reducible assumption | with_reducible exact Below.refl _ _ | with_reducible refine Below.drew ?_ | with_reducible refine below_drewN ?_ _))) hv5; clear hv5)
                | (go_at_call 32; refine (refBal_any x.n x.i x.h x.s x.p x.b x.d _).mono ?_; rintro e v6 ⟨rfl, hv6⟩; have Q6 : Below W7.heap.size W7 v6 := below_step (by (repeat (first | with_reducible assumption | with_reducible exact Below.refl _ _ | with_reducible refine Below.drew ?_ | with_reducible refine below_drewN ?_ _))) hv6; clear hv6))
            have X8 := X7.step Q6
            have Y8 := Y7.step Q6
            have A8 := A7.step Q6
            have B8 := below_step B7 Q6
            clear X7 Y7 A7 B7 HS k0 k1 k2 k3 k4 k5 k6 k7 k8 k9 k10 k11 k12 k13 k14 k15 k16 k17 k18 k19 k20
            obtain ⟨yc0, yc1, yc2, yc3, yc4, yc5, yc6⟩ := AccAt.cells Y8
            obtain ⟨ac0, ac1, ac2, ac3, ac4, ac5, ac6⟩ := AccAt.cells A8
            obtain ⟨af0, af1, af2, af3, af4, af5, af6⟩ := AccAt.frees A8
            go_wp2_with fail
            go_roundw
            case rel => exact ⟨k + 1, y, by go_num, by omega, put7 A8, below7 (below_step hB B8) (by omega)⟩
            case measure => simp [intOf]; omega
          · go_wp2_with fail
            clear o0 o3
            refine (settleOp_any x.n x.i x.h x.s x.p x.b x.d v _).mono ?_; rintro e w5 ⟨rfl, hb5⟩
            obtain ⟨y, er, hr⟩ : ∃ y er, settleR ⟨x.n, x.i, x.h, x.s, x.p, x.b, x.d⟩ v = (y, er) := ⟨_, _, rfl⟩
            have HR := Lib.hid hr
            clear hr
            rw [HR.out, resV_eq]
            have X5 := X4.step hb5
            have Y5 := Y4.step hb5
            have A5 := A4.step hb5
            have B5 := below_step B4 hb5
            clear a0 a1 a2 a3 a4 a5 a6
            obtain ⟨a0, a1, a2, a3, a4, a5, a6⟩ := AccAt.cells A5
            obtain ⟨xc0, xc1, xc2, xc3, xc4, xc5, xc6⟩ := AccAt.cells X5
            obtain ⟨xf0, xf1, xf2, xf3, xf4, xf5, xf6⟩ := AccAt.frees X5
            clear X4 Y4 A4 hb5
            go_wp2_with fail
            refine (refSettle_any x.n x.i x.h x.s x.p x.b x.d v _).mono ?_; rintro e w6 ⟨rfl, hb6⟩
            rw [HR.out, resV_eq]
            clear a0 a1 a2 a3 a4 a5 a6 xc0 xc1 xc2 xc3 xc4 xc5 xc6 xf0 xf1 xf2 xf3 xf4 xf5 xf6
            have X6 : AccAt w6 w2.heap.size y := (put7 (v0 := .int .i64 y.n) (v1 := .int .i64 y.i) (v2 := .int .i64 y.h) (v3 := .bool y.s) (v4 := .int .i64 y.p) (v5 := .int .i64 y.b) (v6 := .int .i64 y.d) X5).step hb6
            have Y6 : AccAt w6 w3.heap.size z := (far7 (v0 := .int .i64 y.n) (v1 := .int .i64 y.i) (v2 := .int .i64 y.h) (v3 := .bool y.s) (v4 := .int .i64 y.p) (v5 := .int .i64 y.b) (v6 := .int .i64 y.d) Y5 (by omega)).step hb6
            have A6 : AccAt w6 w.heap.size x := (far7 (v0 := .int .i64 y.n) (v1 := .int .i64 y.i) (v2 := .int .i64 y.h) (v3 := .bool y.s) (v4 := .int .i64 y.p) (v5 := .int .i64 y.b) (v6 := .int .i64 y.d) A5 (by omega)).step hb6
            have B6 : Below wr.heap.size wr w6 := below_step (below7 B5 (by omega)) hb6
            clear X5 Y5 A5 B5 hb6
            obtain ⟨yc0, yc1, yc2, yc3, yc4, yc5, yc6⟩ := AccAt.cells Y6
            obtain ⟨yf0, yf1, yf2, yf3, yf4, yf5, yf6⟩ := AccAt.frees Y6
            go_upto_region 19 with fail
            clear yc0 yc1 yc2 yc3 yc4 yc5 yc6 yf0 yf1 yf2 yf3 yf4 yf5 yf6
            have X7 : AccAt (((((((w6.setCell ⟨w3.heap.size, 0, none⟩ (.int .i64 y.n)).setCell ⟨w3.heap.size, 1, none⟩ (.int .i64 y.i)).setCell ⟨w3.heap.size, 2, none⟩ (.int .i64 y.h)).setCell ⟨w3.heap.size, 3, none⟩ (.bool y.s)).setCell ⟨w3.heap.size, 4, none⟩ (.int .i64 y.p)).setCell ⟨w3.heap.size, 5, none⟩ (.int .i64 y.b)).setCell ⟨w3.heap.size, 6, none⟩ (.int .i64 y.d)) w2.heap.size y := far7 X6 (by omega)
            have Y7 : AccAt (((((((w6.setCell ⟨w3.heap.size, 0, none⟩ (.int .i64 y.n)).setCell ⟨w3.heap.size, 1, none⟩ (.int .i64 y.i)).setCell ⟨w3.heap.size, 2, none⟩ (.int .i64 y.h)).setCell ⟨w3.heap.size, 3, none⟩ (.bool y.s)).setCell ⟨w3.heap.size, 4, none⟩ (.int .i64 y.p)).setCell ⟨w3.heap.size, 5, none⟩ (.int .i64 y.b)).setCell ⟨w3.heap.size, 6, none⟩ (.int .i64 y.d)) w3.heap.size y := put7 Y6
            have A7 : AccAt (((((((w6.setCell ⟨w3.heap.size, 0, none⟩ (.int .i64 y.n)).setCell ⟨w3.heap.size, 1, none⟩ (.int .i64 y.i)).setCell ⟨w3.heap.size, 2, none⟩ (.int .i64 y.h)).setCell ⟨w3.heap.size, 3, none⟩ (.bool y.s)).setCell ⟨w3.heap.size, 4, none⟩ (.int .i64 y.p)).setCell ⟨w3.heap.size, 5, none⟩ (.int .i64 y.b)).setCell ⟨w3.heap.size, 6, none⟩ (.int .i64 y.d)) w.heap.size x := far7 A6 (by omega)
            have B7 : Below wr.heap.size wr (((((((w6.setCell ⟨w3.heap.size, 0, none⟩ (.int .i64 y.n)).setCell ⟨w3.heap.size, 1, none⟩ (.int .i64 y.i)).setCell ⟨w3.heap.size, 2, none⟩ (.int .i64 y.h)).setCell ⟨w3.heap.size, 3, none⟩ (.bool y.s)).setCell ⟨w3.heap.size, 4, none⟩ (.int .i64 y.p)).setCell ⟨w3.heap.size, 5, none⟩ (.int .i64 y.b)).setCell ⟨w3.heap.size, 6, none⟩ (.int .i64 y.d)) := below7 B6 (by omega)
            obtain ⟨W7, hW7⟩ : ∃ W7, W7 = (((((((w6.setCell ⟨w3.heap.size, 0, none⟩ (.int .i64 y.n)).setCell ⟨w3.heap.size, 1, none⟩ (.int .i64 y.i)).setCell ⟨w3.heap.size, 2, none⟩ (.int .i64 y.h)).setCell ⟨w3.heap.size, 3, none⟩ (.bool y.s)).setCell ⟨w3.heap.size, 4, none⟩ (.int .i64 y.p)).setCell ⟨w3.heap.size, 5, none⟩ (.int .i64 y.b)).setCell ⟨w3.heap.size, 6, none⟩ (.int .i64 y.d)) := ⟨_, rfl⟩
            rw [← hW7] at X7 Y7 A7 B7 ⊢
            clear hW7 X6 Y6 A6 B6
            have HS := Lib.hid (show ∀ w' : World, Below W7.heap.size W7 w' → (w'.cell? ⟨w2.heap.size, 0, none⟩ = some (.int .i64 y.n) ∧ w'.cell? ⟨w2.heap.size, 1, none⟩ = some (.int .i64 y.i) ∧ w'.cell? ⟨w2.heap.size, 2, none⟩ = some (.int .i64 y.h) ∧ w'.cell? ⟨w2.heap.size, 3, none⟩ = some (.bool y.s) ∧ w'.cell? ⟨w2.heap.size, 4, none⟩ = some (.int .i64 y.p) ∧ w'.cell? ⟨w2.heap.size, 5, none⟩ = some (.int .i64 y.b) ∧ w'.cell? ⟨w2.heap.size, 6, none⟩ = some (.int .i64 y.d) ∧ w'.cell? ⟨w3.heap.size, 0, none⟩ = some (.int .i64 y.n) ∧ w'.cell? ⟨w3.heap.size, 1, none⟩ = some (.int .i64 y.i) ∧ w'.cell? ⟨w3.heap.size, 2, none⟩ = some (.int .i64 y.h) ∧ w'.cell? ⟨w3.heap.size, 3, none⟩ = some (.bool y.s) ∧ w'.cell? ⟨w3.heap.size, 4, none⟩ = some (.int .i64 y.p) ∧ w'.cell? ⟨w3.heap.size, 5, none⟩ = some (.int .i64 y.b) ∧ w'.cell? ⟨w3.heap.size, 6, none⟩ = some (.int .i64 y.d) ∧ w'.cell? ⟨w.heap.size, 0, none⟩ = some (.int .i64 x.n) ∧ w'.cell? ⟨w.heap.size, 1, none⟩ = some (.int .i64 x.i) ∧ w'.cell? ⟨w.heap.size, 2, none⟩ = some (.int .i64 x.h) ∧ w'.cell? ⟨w.heap.size, 3, none⟩ = some (.bool x.s) ∧ w'.cell? ⟨w.heap.size, 4, none⟩ = some (.int .i64 x.p) ∧ w'.cell? ⟨w.heap.size, 5, none⟩ = some (.int .i64 x.b) ∧ w'.cell? ⟨w.heap.size, 6, none⟩ = some (.int .i64 x.d)) from fun w' hb => by
              obtain ⟨i0, i1, i2, i3, i4, i5, i6⟩ := (X7.step hb).cells
              obtain ⟨j0, j1, j2, j3, j4, j5, j6⟩ := (Y7.step hb).cells
              obtain ⟨k0, k1, k2, k3, k4, k5, k6⟩ := (A7.step hb).cells
              exact ⟨i0, i1, i2, i3, i4, i5, i6, j0, j1, j2, j3, j4, j5, j6, k0, k1, k2, k3, k4, k5, k6⟩)
            obtain ⟨k0, k1, k2, k3, k4, k5, k6, k7, k8, k9, k10, k11, k12, k13, k14, k15, k16, k17, k18, k19, k20⟩ := HS.out W7 (Below.refl _ _)
            go_region_held3 (fun w' => w'.cell? ⟨w2.heap.size, 0, none⟩ = some (.int .i64 y.n) ∧ w'.cell? ⟨w2.heap.size, 1, none⟩ = some (.int .i64 y.i) ∧ w'.cell? ⟨w2.heap.size, 2, none⟩ = some (.int .i64 y.h) ∧ w'.cell? ⟨w2.heap.size, 3, none⟩ = some (.bool y.s) ∧ w'.cell? ⟨w2.heap.size, 4, none⟩ = some (.int .i64 y.p) ∧ w'.cell? ⟨w2.heap.size, 5, none⟩ = some (.int .i64 y.b) ∧ w'.cell? ⟨w2.heap.size, 6, none⟩ = some (.int .i64 y.d) ∧ w'.cell? ⟨w3.heap.size, 0, none⟩ = some (.int .i64 y.n) ∧ w'.cell? ⟨w3.heap.size, 1, none⟩ = some (.int .i64 y.i) ∧ w'.cell? ⟨w3.heap.size, 2, none⟩ = some (.int .i64 y.h) ∧ w'.cell? ⟨w3.heap.size, 3, none⟩ = some (.bool y.s) ∧ w'.cell? ⟨w3.heap.size, 4, none⟩ = some (.int .i64 y.p) ∧ w'.cell? ⟨w3.heap.size, 5, none⟩ = some (.int .i64 y.b) ∧ w'.cell? ⟨w3.heap.size, 6, none⟩ = some (.int .i64 y.d) ∧ w'.cell? ⟨w.heap.size, 0, none⟩ = some (.int .i64 x.n) ∧ w'.cell? ⟨w.heap.size, 1, none⟩ = some (.int .i64 x.i) ∧ w'.cell? ⟨w.heap.size, 2, none⟩ = some (.int .i64 x.h) ∧ w'.cell? ⟨w.heap.size, 3, none⟩ = some (.bool x.s) ∧ w'.cell? ⟨w.heap.size, 4, none⟩ = some (.int .i64 x.p) ∧ w'.cell? ⟨w.heap.size, 5, none⟩ = some (.int .i64 x.b) ∧ w'.cell? ⟨w.heap.size, 6, none⟩ = some (.int .i64 x.d))
              (first | exact ⟨k0, k1, k2, k3, k4, k5, k6, k7, k8, k9, k10, k11, k12, k13, k14, k15, k16, k17, k18, k19, k20⟩ | exact HS.out _ (by (repeat (first | with_reducible assumption | with_reducible exact Below.refl _ _ | with_reducible refine Below.drew ?_ | with_reducible refine below_drewN ?_ _))))
              (first
                | (go_at_call 16; refine (check_any x.n x.i x.h x.s x.p x.b x.d _).mono ?_; rintro e v1 ⟨rfl, hv1⟩; have Q1 : Below W7.heap.size W7 v1 := below_step (by (repeat (first | with_reducible assumption | with_reducible exact Below.refl _ _ | with_reducible refine Below.drew ?_ | with_reducible refine below_drewN ?_ _))) hv1; clear hv1)
                | (go_at_call 30; refine (refCheck_any x.n x.i x.h x.s x.p x.b x.d _).mono ?_; rintro e v2 ⟨rfl, hv2⟩; have Q2 : Below W7.heap.size W7 v2 := below_step (by (repeat (first | with_reducible assumption | with_reducible exact Below.refl _ _ | with_reducible refine Below.drew ?_ | with_reducible refine below_drewN ?_ _))) hv2; clear hv2)
                | (go_at_call 13; refine (free_any x.n x.i x.h x.s x.p x.b x.d _).mono ?_; rintro e v3 ⟨rfl, hv3⟩; have Q3 : Below W7.heap.size W7 v3 := below_step (by (repeat (first | with_reducible assumption | with_reducible exact Below.refl _ _ | with_reducible refine Below.drew ?_ | with_reducible refine below_drewN ?_ _))) hv3; clear hv3)
                | (go_at_call 31; refine (refFree_any x.n x.i x.h x.s x.p x.b x.d _).mono ?_; rintro e v4 ⟨rfl, hv4⟩; have Q4 : Below W7.heap.size W7 v4 := below_step (by (repeat (first | with_reducible assumption | with_reducible exact Below.refl _ _ | with_reducible refine Below.drew ?_ | with_reducible refine below_drewN ?_ _))) hv4; clear hv4)
                | (go_at_call 17; refine (bal_any x.n x.i x.h x.s x.p x.b x.d _).mono ?_; rintro e v5 ⟨rfl, hv5⟩; have Q5 : Below W7.heap.size W7 v5 := below_step (by (repeat (first | with_reducible assumption | with_reducible exact Below.refl _ _ | with_reducible refine Below.drew ?_ | with_reducible refine below_drewN ?_ _))) hv5; clear hv5)
                | (go_at_call 32; refine (refBal_any x.n x.i x.h x.s x.p x.b x.d _).mono ?_; rintro e v6 ⟨rfl, hv6⟩; have Q6 : Below W7.heap.size W7 v6 := below_step (by (repeat (first | with_reducible assumption | with_reducible exact Below.refl _ _ | with_reducible refine Below.drew ?_ | with_reducible refine below_drewN ?_ _))) hv6; clear hv6))
            have X8 := X7.step Q6
            have Y8 := Y7.step Q6
            have A8 := A7.step Q6
            have B8 := below_step B7 Q6
            clear X7 Y7 A7 B7 HS k0 k1 k2 k3 k4 k5 k6 k7 k8 k9 k10 k11 k12 k13 k14 k15 k16 k17 k18 k19 k20
            obtain ⟨yc0, yc1, yc2, yc3, yc4, yc5, yc6⟩ := AccAt.cells Y8
            obtain ⟨ac0, ac1, ac2, ac3, ac4, ac5, ac6⟩ := AccAt.cells A8
            obtain ⟨af0, af1, af2, af3, af4, af5, af6⟩ := AccAt.frees A8
            go_wp2_with fail
            go_roundw
            case rel => exact ⟨k + 1, y, by go_num, by omega, put7 A8, below7 (below_step hB B8) (by omega)⟩
            case measure => simp [intOf]; omega
      · go_wp2_with fail
        go_ret
        exact ⟨rfl, hB⟩
    · go_wp2_with fail
      go_ret
      exact ⟨rfl, hB⟩
end Go.Proofs.Ytmbapehnagpmbaa
