/- The contracts of package ledger's Put, Hold and Let: what each tells, for every account and number. -/
import Derived.Test.YtmbapehnagpmbaaLedgerOp
namespace Go.Proofs.Ytmbapehnagpmbaa
open Go.RowKit
set_option linter.unusedVariables false

/-- What Put, Hold, Let, Settle tell: the account, the error. -/
def zeroAcc : Acc := ⟨0, 0, 0, false, 0, 0, 0⟩
def putR (x : Acc) (v : Int) : Acc × Int :=
  if x.ok = true then if v < 1 then (x, 1) else if x.s = true then (x, 13) else if 1125899906842624 - x.i < v then (x, 16) else (⟨x.n, x.i + v, x.h, x.s, x.p, x.b, x.d⟩, 0) else (zeroAcc, 1)
def holdR (x : Acc) (v : Int) : Acc × Int :=
  if x.ok = true then if v < 0 then (x, 1) else if x.s = true then (x, 13) else if x.i - x.h < v then (x, 19) else (⟨x.n, x.i, x.h + v, x.s, x.p, x.b, x.d⟩, 0) else (zeroAcc, 1)
def letR (x : Acc) (v : Int) : Acc × Int :=
  if x.ok = true then if v < 0 then (x, 1) else if x.s = true then (x, 13) else if x.h < v then (x, 19) else (⟨x.n, x.i, x.h - v, x.s, x.p, x.b, x.d⟩, 0) else (zeroAcc, 1)
def settleR (x : Acc) (t : Int) : Acc × Int :=
  if x.ok = true then if 0 ≤ t ∧ t ≤ 1125899906842624 then if x.s = true then (x, 13) else (⟨x.n, x.i, 0, true, (if t < x.i then t else x.i), x.i - (if t < x.i then t else x.i), t - (if t < x.i then t else x.i)⟩, 0) else (x, 1) else (zeroAcc, 1)
/-- A result, as it is handed back. -/
def resV (r : Acc × Int) : Value := .tuple #[.agg #[.int .i64 r.1.n, .int .i64 r.1.i, .int .i64 r.1.h, .bool r.1.s, .int .i64 r.1.p, .int .i64 r.1.b, .int .i64 r.1.d], .int .i64 r.2]

theorem op_world (w W : World) (n i h : Int) (s : Bool) (p b d v : Int) (hW : W = (((w.alloc (.cells #[.int .i64 n, .int .i64 i, .int .i64 h, .bool s, .int .i64 p, .int .i64 b, .int .i64 d] 24)).alloc (.cells #[.int .i64 v] 2)).alloc (.cells #[.int .i64 0, .int .i64 0, .int .i64 0, .bool false, .int .i64 0, .int .i64 0, .int .i64 0] 24))) :
    At W w.heap.size 24 #[.int .i64 n, .int .i64 i, .int .i64 h, .bool s, .int .i64 p, .int .i64 b, .int .i64 d] ∧ At W (w.heap.size + 1) 2 #[.int .i64 v] ∧ At W (w.heap.size + 1 + 1) 24 #[.int .i64 0, .int .i64 0, .int .i64 0, .bool false, .int .i64 0, .int .i64 0, .int .i64 0] ∧ Below w.heap.size w W := by
  subst hW
  refine ⟨((At.new _ _ _).alloc _).alloc _, ?_, ?_, (((Below.refl _ _).alloc (Nat.le_refl _) _).alloc (by simp) _).alloc (by simp; omega) _⟩
  · have h1 := (At.new (w.alloc (.cells #[.int .i64 n, .int .i64 i, .int .i64 h, .bool s, .int .i64 p, .int .i64 b, .int .i64 d] 24)) 2 #[.int .i64 v]).alloc (.cells #[.int .i64 0, .int .i64 0, .int .i64 0, .bool false, .int .i64 0, .int .i64 0, .int .i64 0] 24)
    simpa using h1
  · have h1 := At.new ((w.alloc (.cells #[.int .i64 n, .int .i64 i, .int .i64 h, .bool s, .int .i64 p, .int .i64 b, .int .i64 d] 24)).alloc (.cells #[.int .i64 v] 2)) 24 #[.int .i64 0, .int .i64 0, .int .i64 0, .bool false, .int .i64 0, .int .i64 0, .int .i64 0]
    simpa using h1

set_option maxRecDepth 100000 in
set_option maxHeartbeats 6400000 in
theorem putOp_any (n i h : Int) (s : Bool) (p b d v : Int) (w : World) :
    Calls Try.prog 10 #[.agg #[.int .i64 n, .int .i64 i, .int .i64 h, .bool s, .int .i64 p, .int .i64 b, .int .i64 d], .int .i64 v] w fun e w' => e = .returned (resV (putR ⟨n, i, h, s, p, b, d⟩ v)) ∧ Below w.heap.size w w' := by
  cases hc : Acc.ok ⟨n, i, h, s, p, b, d⟩
  · have H := Lib.hid (show putR ⟨n, i, h, s, p, b, d⟩ v = (zeroAcc, 1) by unfold putR; rw [if_neg (by rw [hc]; simp)])
    have HC := Lib.hid hc
    clear hc
    have hmf : ∀ (fn : Fn) (first cap : Array Value) (w : World), (Instr.makeFunc fn first cap).run Try.prog w = .ok (.func fn first cap) w := fun _ _ _ _ => rfl
    go_enter Try.func10, Try.ntmps10
    go_wp2_with fail
    obtain ⟨W1, hW1⟩ : ∃ W1, W1 = (((w.alloc (.cells #[.int .i64 n, .int .i64 i, .int .i64 h, .bool s, .int .i64 p, .int .i64 b, .int .i64 d] 24)).alloc (.cells #[.int .i64 v] 2)).alloc (.cells #[.int .i64 0, .int .i64 0, .int .i64 0, .bool false, .int .i64 0, .int .i64 0, .int .i64 0] 24)) := ⟨_, rfl⟩
    rw [← hW1]
    obtain ⟨hA, hT, hR, hB⟩ := op_world w W1 n i h s p b d v hW1
    clear hW1
    refine (change_bad n i h s p b d _ _ _ HC.out).mono ?_; rintro e w1 ⟨rfl, hb1⟩
    have R1 := hR.step hb1
    have B1 := below_step hB hb1
    clear hA hT hR hB hb1
    have rc0 := R1.cell 0
    have rf0 := R1.free 0
    have rc1 := R1.cell 1
    have rf1 := R1.free 1
    have rc2 := R1.cell 2
    have rf2 := R1.free 2
    have rc3 := R1.cell 3
    have rf3 := R1.free 3
    have rc4 := R1.cell 4
    have rf4 := R1.free 4
    have rc5 := R1.cell 5
    have rf5 := R1.free 5
    have rc6 := R1.cell 6
    have rf6 := R1.free 6
    go_wp2_with fail
    have F := put7 R1 (t := 24) (v0 := .int .i64 0) (v1 := .int .i64 0) (v2 := .int .i64 0) (v3 := .bool false) (v4 := .int .i64 0) (v5 := .int .i64 0) (v6 := .int .i64 0)
    have q0 := F.cell 0
    have q1 := F.cell 1
    have q2 := F.cell 2
    have q3 := F.cell 3
    have q4 := F.cell 4
    have q5 := F.cell 5
    have q6 := F.cell 6
    simp at q0 q1 q2 q3 q4 q5 q6
    exact bodyPost_ret (v := .tuple #[.agg #[.int .i64 0, .int .i64 0, .int .i64 0, .bool false, .int .i64 0, .int .i64 0, .int .i64 0], .int .i64 1]) (by simp [results, Try.results10, go_sem, q0, q1, q2, q3, q4, q5, q6]) rfl ⟨by rw [H.out]; rfl, below7 B1 (by omega)⟩
  · by_cases c1 : v < 1
    · have H := Lib.hid (show putR ⟨n, i, h, s, p, b, d⟩ v = (⟨n, i, h, s, p, b, d⟩, 1) by unfold putR; rw [if_pos hc, if_pos c1])
      have HC := Lib.hid hc
      have e1 : decide (1 ≤ v) = false := decide_eq_false (by omega)
      clear hc
      have hmf : ∀ (fn : Fn) (first cap : Array Value) (w : World), (Instr.makeFunc fn first cap).run Try.prog w = .ok (.func fn first cap) w := fun _ _ _ _ => rfl
      go_enter Try.func10, Try.ntmps10
      go_wp2_with fail
      obtain ⟨W1, hW1⟩ : ∃ W1, W1 = (((w.alloc (.cells #[.int .i64 n, .int .i64 i, .int .i64 h, .bool s, .int .i64 p, .int .i64 b, .int .i64 d] 24)).alloc (.cells #[.int .i64 v] 2)).alloc (.cells #[.int .i64 0, .int .i64 0, .int .i64 0, .bool false, .int .i64 0, .int .i64 0, .int .i64 0] 24)) := ⟨_, rfl⟩
      rw [← hW1]
      obtain ⟨hA, hT, hR, hB⟩ := op_world w W1 n i h s p b d v hW1
      clear hW1
      refine (change_no n i h s p b d _ _ HC.out).mono ?_; rintro e w1 ⟨rfl, hb1⟩
      have R1 := hR.step hb1
      have B1 := below_step hB hb1
      clear hA hT hR hB hb1
      have rc0 := R1.cell 0
      have rf0 := R1.free 0
      have rc1 := R1.cell 1
      have rf1 := R1.free 1
      have rc2 := R1.cell 2
      have rf2 := R1.free 2
      have rc3 := R1.cell 3
      have rf3 := R1.free 3
      have rc4 := R1.cell 4
      have rf4 := R1.free 4
      have rc5 := R1.cell 5
      have rf5 := R1.free 5
      have rc6 := R1.cell 6
      have rf6 := R1.free 6
      go_wp2_with fail
      have F := put7 R1 (t := 24) (v0 := .int .i64 n) (v1 := .int .i64 i) (v2 := .int .i64 h) (v3 := .bool s) (v4 := .int .i64 p) (v5 := .int .i64 b) (v6 := .int .i64 d)
      have q0 := F.cell 0
      have q1 := F.cell 1
      have q2 := F.cell 2
      have q3 := F.cell 3
      have q4 := F.cell 4
      have q5 := F.cell 5
      have q6 := F.cell 6
      simp at q0 q1 q2 q3 q4 q5 q6
      exact bodyPost_ret (v := .tuple #[.agg #[.int .i64 n, .int .i64 i, .int .i64 h, .bool s, .int .i64 p, .int .i64 b, .int .i64 d], .int .i64 1]) (by simp [results, Try.results10, go_sem, q0, q1, q2, q3, q4, q5, q6]) rfl ⟨by rw [H.out]; rfl, below7 B1 (by omega)⟩
    · have e1 : decide (1 ≤ v) = true := decide_eq_true (by omega)
      cases s
      · by_cases c2 : 1125899906842624 - i < v
        · have H := Lib.hid (show putR ⟨n, i, h, false, p, b, d⟩ v = (⟨n, i, h, false, p, b, d⟩, 16) by unfold putR; rw [if_pos hc, if_neg c1, if_neg (by simp), if_pos c2])
          have HC := Lib.hid hc
          clear hc
          have hmf : ∀ (fn : Fn) (first cap : Array Value) (w : World), (Instr.makeFunc fn first cap).run Try.prog w = .ok (.func fn first cap) w := fun _ _ _ _ => rfl
          go_enter Try.func10, Try.ntmps10
          go_wp2_with fail
          obtain ⟨W1, hW1⟩ : ∃ W1, W1 = (((w.alloc (.cells #[.int .i64 n, .int .i64 i, .int .i64 h, .bool false, .int .i64 p, .int .i64 b, .int .i64 d] 24)).alloc (.cells #[.int .i64 v] 2)).alloc (.cells #[.int .i64 0, .int .i64 0, .int .i64 0, .bool false, .int .i64 0, .int .i64 0, .int .i64 0] 24)) := ⟨_, rfl⟩
          rw [← hW1]
          obtain ⟨hA, hT, hR, hB⟩ := op_world w W1 n i h false p b d v hW1
          clear hW1
          refine (change_put_no n i h p b d v _ _ hT HC.out (by omega) (by omega)).mono ?_; rintro e w1 ⟨rfl, hb1⟩
          have R1 := hR.step hb1
          have B1 := below_step hB hb1
          clear hA hT hR hB hb1
          have rc0 := R1.cell 0
          have rf0 := R1.free 0
          have rc1 := R1.cell 1
          have rf1 := R1.free 1
          have rc2 := R1.cell 2
          have rf2 := R1.free 2
          have rc3 := R1.cell 3
          have rf3 := R1.free 3
          have rc4 := R1.cell 4
          have rf4 := R1.free 4
          have rc5 := R1.cell 5
          have rf5 := R1.free 5
          have rc6 := R1.cell 6
          have rf6 := R1.free 6
          go_wp2_with fail
          have F := put7 R1 (t := 24) (v0 := .int .i64 n) (v1 := .int .i64 i) (v2 := .int .i64 h) (v3 := .bool false) (v4 := .int .i64 p) (v5 := .int .i64 b) (v6 := .int .i64 d)
          have q0 := F.cell 0
          have q1 := F.cell 1
          have q2 := F.cell 2
          have q3 := F.cell 3
          have q4 := F.cell 4
          have q5 := F.cell 5
          have q6 := F.cell 6
          simp at q0 q1 q2 q3 q4 q5 q6
          exact bodyPost_ret (v := .tuple #[.agg #[.int .i64 n, .int .i64 i, .int .i64 h, .bool false, .int .i64 p, .int .i64 b, .int .i64 d], .int .i64 16]) (by simp [results, Try.results10, go_sem, q0, q1, q2, q3, q4, q5, q6]) rfl ⟨by rw [H.out]; rfl, below7 B1 (by omega)⟩
        · have H := Lib.hid (show putR ⟨n, i, h, false, p, b, d⟩ v = (⟨n, i + v, h, false, p, b, d⟩, 0) by unfold putR; rw [if_pos hc, if_neg c1, if_neg (by simp), if_neg c2])
          have HC := Lib.hid hc
          clear hc
          have hmf : ∀ (fn : Fn) (first cap : Array Value) (w : World), (Instr.makeFunc fn first cap).run Try.prog w = .ok (.func fn first cap) w := fun _ _ _ _ => rfl
          go_enter Try.func10, Try.ntmps10
          go_wp2_with fail
          obtain ⟨W1, hW1⟩ : ∃ W1, W1 = (((w.alloc (.cells #[.int .i64 n, .int .i64 i, .int .i64 h, .bool false, .int .i64 p, .int .i64 b, .int .i64 d] 24)).alloc (.cells #[.int .i64 v] 2)).alloc (.cells #[.int .i64 0, .int .i64 0, .int .i64 0, .bool false, .int .i64 0, .int .i64 0, .int .i64 0] 24)) := ⟨_, rfl⟩
          rw [← hW1]
          obtain ⟨hA, hT, hR, hB⟩ := op_world w W1 n i h false p b d v hW1
          clear hW1
          refine (change_put_yes n i h p b d v _ _ hT HC.out (by omega) (by omega)).mono ?_; rintro e w1 ⟨rfl, hb1⟩
          have R1 := hR.step hb1
          have B1 := below_step hB hb1
          clear hA hT hR hB hb1
          have rc0 := R1.cell 0
          have rf0 := R1.free 0
          have rc1 := R1.cell 1
          have rf1 := R1.free 1
          have rc2 := R1.cell 2
          have rf2 := R1.free 2
          have rc3 := R1.cell 3
          have rf3 := R1.free 3
          have rc4 := R1.cell 4
          have rf4 := R1.free 4
          have rc5 := R1.cell 5
          have rf5 := R1.free 5
          have rc6 := R1.cell 6
          have rf6 := R1.free 6
          go_wp2_with fail
          have F := put7 R1 (t := 24) (v0 := .int .i64 n) (v1 := .int .i64 (i + v)) (v2 := .int .i64 h) (v3 := .bool false) (v4 := .int .i64 p) (v5 := .int .i64 b) (v6 := .int .i64 d)
          have q0 := F.cell 0
          have q1 := F.cell 1
          have q2 := F.cell 2
          have q3 := F.cell 3
          have q4 := F.cell 4
          have q5 := F.cell 5
          have q6 := F.cell 6
          simp at q0 q1 q2 q3 q4 q5 q6
          exact bodyPost_ret (v := .tuple #[.agg #[.int .i64 n, .int .i64 (i + v), .int .i64 h, .bool false, .int .i64 p, .int .i64 b, .int .i64 d], .int .i64 0]) (by simp [results, Try.results10, go_sem, q0, q1, q2, q3, q4, q5, q6]) rfl ⟨by rw [H.out]; rfl, below7 B1 (by omega)⟩
      · have H := Lib.hid (show putR ⟨n, i, h, true, p, b, d⟩ v = (⟨n, i, h, true, p, b, d⟩, 13) by unfold putR; rw [if_pos hc, if_neg c1, if_pos rfl])
        have HC := Lib.hid hc
        clear hc
        have hmf : ∀ (fn : Fn) (first cap : Array Value) (w : World), (Instr.makeFunc fn first cap).run Try.prog w = .ok (.func fn first cap) w := fun _ _ _ _ => rfl
        go_enter Try.func10, Try.ntmps10
        go_wp2_with fail
        obtain ⟨W1, hW1⟩ : ∃ W1, W1 = (((w.alloc (.cells #[.int .i64 n, .int .i64 i, .int .i64 h, .bool true, .int .i64 p, .int .i64 b, .int .i64 d] 24)).alloc (.cells #[.int .i64 v] 2)).alloc (.cells #[.int .i64 0, .int .i64 0, .int .i64 0, .bool false, .int .i64 0, .int .i64 0, .int .i64 0] 24)) := ⟨_, rfl⟩
        rw [← hW1]
        obtain ⟨hA, hT, hR, hB⟩ := op_world w W1 n i h true p b d v hW1
        clear hW1
        refine (change_set n i h p b d _ _ HC.out).mono ?_; rintro e w1 ⟨rfl, hb1⟩
        have R1 := hR.step hb1
        have B1 := below_step hB hb1
        clear hA hT hR hB hb1
        have rc0 := R1.cell 0
        have rf0 := R1.free 0
        have rc1 := R1.cell 1
        have rf1 := R1.free 1
        have rc2 := R1.cell 2
        have rf2 := R1.free 2
        have rc3 := R1.cell 3
        have rf3 := R1.free 3
        have rc4 := R1.cell 4
        have rf4 := R1.free 4
        have rc5 := R1.cell 5
        have rf5 := R1.free 5
        have rc6 := R1.cell 6
        have rf6 := R1.free 6
        go_wp2_with fail
        have F := put7 R1 (t := 24) (v0 := .int .i64 n) (v1 := .int .i64 i) (v2 := .int .i64 h) (v3 := .bool true) (v4 := .int .i64 p) (v5 := .int .i64 b) (v6 := .int .i64 d)
        have q0 := F.cell 0
        have q1 := F.cell 1
        have q2 := F.cell 2
        have q3 := F.cell 3
        have q4 := F.cell 4
        have q5 := F.cell 5
        have q6 := F.cell 6
        simp at q0 q1 q2 q3 q4 q5 q6
        exact bodyPost_ret (v := .tuple #[.agg #[.int .i64 n, .int .i64 i, .int .i64 h, .bool true, .int .i64 p, .int .i64 b, .int .i64 d], .int .i64 13]) (by simp [results, Try.results10, go_sem, q0, q1, q2, q3, q4, q5, q6]) rfl ⟨by rw [H.out]; rfl, below7 B1 (by omega)⟩

set_option maxRecDepth 100000 in
set_option maxHeartbeats 6400000 in
theorem holdOp_any (n i h : Int) (s : Bool) (p b d v : Int) (w : World) :
    Calls Try.prog 11 #[.agg #[.int .i64 n, .int .i64 i, .int .i64 h, .bool s, .int .i64 p, .int .i64 b, .int .i64 d], .int .i64 v] w fun e w' => e = .returned (resV (holdR ⟨n, i, h, s, p, b, d⟩ v)) ∧ Below w.heap.size w w' := by
  cases hc : Acc.ok ⟨n, i, h, s, p, b, d⟩
  · have H := Lib.hid (show holdR ⟨n, i, h, s, p, b, d⟩ v = (zeroAcc, 1) by unfold holdR; rw [if_neg (by rw [hc]; simp)])
    have HC := Lib.hid hc
    clear hc
    have hmf : ∀ (fn : Fn) (first cap : Array Value) (w : World), (Instr.makeFunc fn first cap).run Try.prog w = .ok (.func fn first cap) w := fun _ _ _ _ => rfl
    go_enter Try.func11, Try.ntmps11
    go_wp2_with fail
    obtain ⟨W1, hW1⟩ : ∃ W1, W1 = (((w.alloc (.cells #[.int .i64 n, .int .i64 i, .int .i64 h, .bool s, .int .i64 p, .int .i64 b, .int .i64 d] 24)).alloc (.cells #[.int .i64 v] 2)).alloc (.cells #[.int .i64 0, .int .i64 0, .int .i64 0, .bool false, .int .i64 0, .int .i64 0, .int .i64 0] 24)) := ⟨_, rfl⟩
    rw [← hW1]
    obtain ⟨hA, hT, hR, hB⟩ := op_world w W1 n i h s p b d v hW1
    clear hW1
    refine (change_bad n i h s p b d _ _ _ HC.out).mono ?_; rintro e w1 ⟨rfl, hb1⟩
    have R1 := hR.step hb1
    have B1 := below_step hB hb1
    clear hA hT hR hB hb1
    have rc0 := R1.cell 0
    have rf0 := R1.free 0
    have rc1 := R1.cell 1
    have rf1 := R1.free 1
    have rc2 := R1.cell 2
    have rf2 := R1.free 2
    have rc3 := R1.cell 3
    have rf3 := R1.free 3
    have rc4 := R1.cell 4
    have rf4 := R1.free 4
    have rc5 := R1.cell 5
    have rf5 := R1.free 5
    have rc6 := R1.cell 6
    have rf6 := R1.free 6
    go_wp2_with fail
    have F := put7 R1 (t := 24) (v0 := .int .i64 0) (v1 := .int .i64 0) (v2 := .int .i64 0) (v3 := .bool false) (v4 := .int .i64 0) (v5 := .int .i64 0) (v6 := .int .i64 0)
    have q0 := F.cell 0
    have q1 := F.cell 1
    have q2 := F.cell 2
    have q3 := F.cell 3
    have q4 := F.cell 4
    have q5 := F.cell 5
    have q6 := F.cell 6
    simp at q0 q1 q2 q3 q4 q5 q6
    exact bodyPost_ret (v := .tuple #[.agg #[.int .i64 0, .int .i64 0, .int .i64 0, .bool false, .int .i64 0, .int .i64 0, .int .i64 0], .int .i64 1]) (by simp [results, Try.results11, go_sem, q0, q1, q2, q3, q4, q5, q6]) rfl ⟨by rw [H.out]; rfl, below7 B1 (by omega)⟩
  · by_cases c1 : v < 0
    · have H := Lib.hid (show holdR ⟨n, i, h, s, p, b, d⟩ v = (⟨n, i, h, s, p, b, d⟩, 1) by unfold holdR; rw [if_pos hc, if_pos c1])
      have HC := Lib.hid hc
      have e1 : decide (0 ≤ v) = false := decide_eq_false (by omega)
      clear hc
      have hmf : ∀ (fn : Fn) (first cap : Array Value) (w : World), (Instr.makeFunc fn first cap).run Try.prog w = .ok (.func fn first cap) w := fun _ _ _ _ => rfl
      go_enter Try.func11, Try.ntmps11
      go_wp2_with fail
      obtain ⟨W1, hW1⟩ : ∃ W1, W1 = (((w.alloc (.cells #[.int .i64 n, .int .i64 i, .int .i64 h, .bool s, .int .i64 p, .int .i64 b, .int .i64 d] 24)).alloc (.cells #[.int .i64 v] 2)).alloc (.cells #[.int .i64 0, .int .i64 0, .int .i64 0, .bool false, .int .i64 0, .int .i64 0, .int .i64 0] 24)) := ⟨_, rfl⟩
      rw [← hW1]
      obtain ⟨hA, hT, hR, hB⟩ := op_world w W1 n i h s p b d v hW1
      clear hW1
      refine (change_no n i h s p b d _ _ HC.out).mono ?_; rintro e w1 ⟨rfl, hb1⟩
      have R1 := hR.step hb1
      have B1 := below_step hB hb1
      clear hA hT hR hB hb1
      have rc0 := R1.cell 0
      have rf0 := R1.free 0
      have rc1 := R1.cell 1
      have rf1 := R1.free 1
      have rc2 := R1.cell 2
      have rf2 := R1.free 2
      have rc3 := R1.cell 3
      have rf3 := R1.free 3
      have rc4 := R1.cell 4
      have rf4 := R1.free 4
      have rc5 := R1.cell 5
      have rf5 := R1.free 5
      have rc6 := R1.cell 6
      have rf6 := R1.free 6
      go_wp2_with fail
      have F := put7 R1 (t := 24) (v0 := .int .i64 n) (v1 := .int .i64 i) (v2 := .int .i64 h) (v3 := .bool s) (v4 := .int .i64 p) (v5 := .int .i64 b) (v6 := .int .i64 d)
      have q0 := F.cell 0
      have q1 := F.cell 1
      have q2 := F.cell 2
      have q3 := F.cell 3
      have q4 := F.cell 4
      have q5 := F.cell 5
      have q6 := F.cell 6
      simp at q0 q1 q2 q3 q4 q5 q6
      exact bodyPost_ret (v := .tuple #[.agg #[.int .i64 n, .int .i64 i, .int .i64 h, .bool s, .int .i64 p, .int .i64 b, .int .i64 d], .int .i64 1]) (by simp [results, Try.results11, go_sem, q0, q1, q2, q3, q4, q5, q6]) rfl ⟨by rw [H.out]; rfl, below7 B1 (by omega)⟩
    · have e1 : decide (0 ≤ v) = true := decide_eq_true (by omega)
      cases s
      · by_cases c2 : i - h < v
        · have H := Lib.hid (show holdR ⟨n, i, h, false, p, b, d⟩ v = (⟨n, i, h, false, p, b, d⟩, 19) by unfold holdR; rw [if_pos hc, if_neg c1, if_neg (by simp), if_pos c2])
          have HC := Lib.hid hc
          clear hc
          have hmf : ∀ (fn : Fn) (first cap : Array Value) (w : World), (Instr.makeFunc fn first cap).run Try.prog w = .ok (.func fn first cap) w := fun _ _ _ _ => rfl
          go_enter Try.func11, Try.ntmps11
          go_wp2_with fail
          obtain ⟨W1, hW1⟩ : ∃ W1, W1 = (((w.alloc (.cells #[.int .i64 n, .int .i64 i, .int .i64 h, .bool false, .int .i64 p, .int .i64 b, .int .i64 d] 24)).alloc (.cells #[.int .i64 v] 2)).alloc (.cells #[.int .i64 0, .int .i64 0, .int .i64 0, .bool false, .int .i64 0, .int .i64 0, .int .i64 0] 24)) := ⟨_, rfl⟩
          rw [← hW1]
          obtain ⟨hA, hT, hR, hB⟩ := op_world w W1 n i h false p b d v hW1
          clear hW1
          refine (change_hold_no n i h p b d v _ _ hT HC.out (by omega) (by omega)).mono ?_; rintro e w1 ⟨rfl, hb1⟩
          have R1 := hR.step hb1
          have B1 := below_step hB hb1
          clear hA hT hR hB hb1
          have rc0 := R1.cell 0
          have rf0 := R1.free 0
          have rc1 := R1.cell 1
          have rf1 := R1.free 1
          have rc2 := R1.cell 2
          have rf2 := R1.free 2
          have rc3 := R1.cell 3
          have rf3 := R1.free 3
          have rc4 := R1.cell 4
          have rf4 := R1.free 4
          have rc5 := R1.cell 5
          have rf5 := R1.free 5
          have rc6 := R1.cell 6
          have rf6 := R1.free 6
          go_wp2_with fail
          have F := put7 R1 (t := 24) (v0 := .int .i64 n) (v1 := .int .i64 i) (v2 := .int .i64 h) (v3 := .bool false) (v4 := .int .i64 p) (v5 := .int .i64 b) (v6 := .int .i64 d)
          have q0 := F.cell 0
          have q1 := F.cell 1
          have q2 := F.cell 2
          have q3 := F.cell 3
          have q4 := F.cell 4
          have q5 := F.cell 5
          have q6 := F.cell 6
          simp at q0 q1 q2 q3 q4 q5 q6
          exact bodyPost_ret (v := .tuple #[.agg #[.int .i64 n, .int .i64 i, .int .i64 h, .bool false, .int .i64 p, .int .i64 b, .int .i64 d], .int .i64 19]) (by simp [results, Try.results11, go_sem, q0, q1, q2, q3, q4, q5, q6]) rfl ⟨by rw [H.out]; rfl, below7 B1 (by omega)⟩
        · have H := Lib.hid (show holdR ⟨n, i, h, false, p, b, d⟩ v = (⟨n, i, h + v, false, p, b, d⟩, 0) by unfold holdR; rw [if_pos hc, if_neg c1, if_neg (by simp), if_neg c2])
          have HC := Lib.hid hc
          clear hc
          have hmf : ∀ (fn : Fn) (first cap : Array Value) (w : World), (Instr.makeFunc fn first cap).run Try.prog w = .ok (.func fn first cap) w := fun _ _ _ _ => rfl
          go_enter Try.func11, Try.ntmps11
          go_wp2_with fail
          obtain ⟨W1, hW1⟩ : ∃ W1, W1 = (((w.alloc (.cells #[.int .i64 n, .int .i64 i, .int .i64 h, .bool false, .int .i64 p, .int .i64 b, .int .i64 d] 24)).alloc (.cells #[.int .i64 v] 2)).alloc (.cells #[.int .i64 0, .int .i64 0, .int .i64 0, .bool false, .int .i64 0, .int .i64 0, .int .i64 0] 24)) := ⟨_, rfl⟩
          rw [← hW1]
          obtain ⟨hA, hT, hR, hB⟩ := op_world w W1 n i h false p b d v hW1
          clear hW1
          refine (change_hold_yes n i h p b d v _ _ hT HC.out (by omega) (by omega)).mono ?_; rintro e w1 ⟨rfl, hb1⟩
          have R1 := hR.step hb1
          have B1 := below_step hB hb1
          clear hA hT hR hB hb1
          have rc0 := R1.cell 0
          have rf0 := R1.free 0
          have rc1 := R1.cell 1
          have rf1 := R1.free 1
          have rc2 := R1.cell 2
          have rf2 := R1.free 2
          have rc3 := R1.cell 3
          have rf3 := R1.free 3
          have rc4 := R1.cell 4
          have rf4 := R1.free 4
          have rc5 := R1.cell 5
          have rf5 := R1.free 5
          have rc6 := R1.cell 6
          have rf6 := R1.free 6
          go_wp2_with fail
          have F := put7 R1 (t := 24) (v0 := .int .i64 n) (v1 := .int .i64 i) (v2 := .int .i64 (h + v)) (v3 := .bool false) (v4 := .int .i64 p) (v5 := .int .i64 b) (v6 := .int .i64 d)
          have q0 := F.cell 0
          have q1 := F.cell 1
          have q2 := F.cell 2
          have q3 := F.cell 3
          have q4 := F.cell 4
          have q5 := F.cell 5
          have q6 := F.cell 6
          simp at q0 q1 q2 q3 q4 q5 q6
          exact bodyPost_ret (v := .tuple #[.agg #[.int .i64 n, .int .i64 i, .int .i64 (h + v), .bool false, .int .i64 p, .int .i64 b, .int .i64 d], .int .i64 0]) (by simp [results, Try.results11, go_sem, q0, q1, q2, q3, q4, q5, q6]) rfl ⟨by rw [H.out]; rfl, below7 B1 (by omega)⟩
      · have H := Lib.hid (show holdR ⟨n, i, h, true, p, b, d⟩ v = (⟨n, i, h, true, p, b, d⟩, 13) by unfold holdR; rw [if_pos hc, if_neg c1, if_pos rfl])
        have HC := Lib.hid hc
        clear hc
        have hmf : ∀ (fn : Fn) (first cap : Array Value) (w : World), (Instr.makeFunc fn first cap).run Try.prog w = .ok (.func fn first cap) w := fun _ _ _ _ => rfl
        go_enter Try.func11, Try.ntmps11
        go_wp2_with fail
        obtain ⟨W1, hW1⟩ : ∃ W1, W1 = (((w.alloc (.cells #[.int .i64 n, .int .i64 i, .int .i64 h, .bool true, .int .i64 p, .int .i64 b, .int .i64 d] 24)).alloc (.cells #[.int .i64 v] 2)).alloc (.cells #[.int .i64 0, .int .i64 0, .int .i64 0, .bool false, .int .i64 0, .int .i64 0, .int .i64 0] 24)) := ⟨_, rfl⟩
        rw [← hW1]
        obtain ⟨hA, hT, hR, hB⟩ := op_world w W1 n i h true p b d v hW1
        clear hW1
        refine (change_set n i h p b d _ _ HC.out).mono ?_; rintro e w1 ⟨rfl, hb1⟩
        have R1 := hR.step hb1
        have B1 := below_step hB hb1
        clear hA hT hR hB hb1
        have rc0 := R1.cell 0
        have rf0 := R1.free 0
        have rc1 := R1.cell 1
        have rf1 := R1.free 1
        have rc2 := R1.cell 2
        have rf2 := R1.free 2
        have rc3 := R1.cell 3
        have rf3 := R1.free 3
        have rc4 := R1.cell 4
        have rf4 := R1.free 4
        have rc5 := R1.cell 5
        have rf5 := R1.free 5
        have rc6 := R1.cell 6
        have rf6 := R1.free 6
        go_wp2_with fail
        have F := put7 R1 (t := 24) (v0 := .int .i64 n) (v1 := .int .i64 i) (v2 := .int .i64 h) (v3 := .bool true) (v4 := .int .i64 p) (v5 := .int .i64 b) (v6 := .int .i64 d)
        have q0 := F.cell 0
        have q1 := F.cell 1
        have q2 := F.cell 2
        have q3 := F.cell 3
        have q4 := F.cell 4
        have q5 := F.cell 5
        have q6 := F.cell 6
        simp at q0 q1 q2 q3 q4 q5 q6
        exact bodyPost_ret (v := .tuple #[.agg #[.int .i64 n, .int .i64 i, .int .i64 h, .bool true, .int .i64 p, .int .i64 b, .int .i64 d], .int .i64 13]) (by simp [results, Try.results11, go_sem, q0, q1, q2, q3, q4, q5, q6]) rfl ⟨by rw [H.out]; rfl, below7 B1 (by omega)⟩

set_option maxRecDepth 100000 in
set_option maxHeartbeats 6400000 in
theorem letOp_any (n i h : Int) (s : Bool) (p b d v : Int) (w : World) :
    Calls Try.prog 12 #[.agg #[.int .i64 n, .int .i64 i, .int .i64 h, .bool s, .int .i64 p, .int .i64 b, .int .i64 d], .int .i64 v] w fun e w' => e = .returned (resV (letR ⟨n, i, h, s, p, b, d⟩ v)) ∧ Below w.heap.size w w' := by
  cases hc : Acc.ok ⟨n, i, h, s, p, b, d⟩
  · have H := Lib.hid (show letR ⟨n, i, h, s, p, b, d⟩ v = (zeroAcc, 1) by unfold letR; rw [if_neg (by rw [hc]; simp)])
    have HC := Lib.hid hc
    clear hc
    have hmf : ∀ (fn : Fn) (first cap : Array Value) (w : World), (Instr.makeFunc fn first cap).run Try.prog w = .ok (.func fn first cap) w := fun _ _ _ _ => rfl
    go_enter Try.func12, Try.ntmps12
    go_wp2_with fail
    obtain ⟨W1, hW1⟩ : ∃ W1, W1 = (((w.alloc (.cells #[.int .i64 n, .int .i64 i, .int .i64 h, .bool s, .int .i64 p, .int .i64 b, .int .i64 d] 24)).alloc (.cells #[.int .i64 v] 2)).alloc (.cells #[.int .i64 0, .int .i64 0, .int .i64 0, .bool false, .int .i64 0, .int .i64 0, .int .i64 0] 24)) := ⟨_, rfl⟩
    rw [← hW1]
    obtain ⟨hA, hT, hR, hB⟩ := op_world w W1 n i h s p b d v hW1
    clear hW1
    refine (change_bad n i h s p b d _ _ _ HC.out).mono ?_; rintro e w1 ⟨rfl, hb1⟩
    have R1 := hR.step hb1
    have B1 := below_step hB hb1
    clear hA hT hR hB hb1
    have rc0 := R1.cell 0
    have rf0 := R1.free 0
    have rc1 := R1.cell 1
    have rf1 := R1.free 1
    have rc2 := R1.cell 2
    have rf2 := R1.free 2
    have rc3 := R1.cell 3
    have rf3 := R1.free 3
    have rc4 := R1.cell 4
    have rf4 := R1.free 4
    have rc5 := R1.cell 5
    have rf5 := R1.free 5
    have rc6 := R1.cell 6
    have rf6 := R1.free 6
    go_wp2_with fail
    have F := put7 R1 (t := 24) (v0 := .int .i64 0) (v1 := .int .i64 0) (v2 := .int .i64 0) (v3 := .bool false) (v4 := .int .i64 0) (v5 := .int .i64 0) (v6 := .int .i64 0)
    have q0 := F.cell 0
    have q1 := F.cell 1
    have q2 := F.cell 2
    have q3 := F.cell 3
    have q4 := F.cell 4
    have q5 := F.cell 5
    have q6 := F.cell 6
    simp at q0 q1 q2 q3 q4 q5 q6
    exact bodyPost_ret (v := .tuple #[.agg #[.int .i64 0, .int .i64 0, .int .i64 0, .bool false, .int .i64 0, .int .i64 0, .int .i64 0], .int .i64 1]) (by simp [results, Try.results12, go_sem, q0, q1, q2, q3, q4, q5, q6]) rfl ⟨by rw [H.out]; rfl, below7 B1 (by omega)⟩
  · by_cases c1 : v < 0
    · have H := Lib.hid (show letR ⟨n, i, h, s, p, b, d⟩ v = (⟨n, i, h, s, p, b, d⟩, 1) by unfold letR; rw [if_pos hc, if_pos c1])
      have HC := Lib.hid hc
      have e1 : decide (0 ≤ v) = false := decide_eq_false (by omega)
      clear hc
      have hmf : ∀ (fn : Fn) (first cap : Array Value) (w : World), (Instr.makeFunc fn first cap).run Try.prog w = .ok (.func fn first cap) w := fun _ _ _ _ => rfl
      go_enter Try.func12, Try.ntmps12
      go_wp2_with fail
      obtain ⟨W1, hW1⟩ : ∃ W1, W1 = (((w.alloc (.cells #[.int .i64 n, .int .i64 i, .int .i64 h, .bool s, .int .i64 p, .int .i64 b, .int .i64 d] 24)).alloc (.cells #[.int .i64 v] 2)).alloc (.cells #[.int .i64 0, .int .i64 0, .int .i64 0, .bool false, .int .i64 0, .int .i64 0, .int .i64 0] 24)) := ⟨_, rfl⟩
      rw [← hW1]
      obtain ⟨hA, hT, hR, hB⟩ := op_world w W1 n i h s p b d v hW1
      clear hW1
      refine (change_no n i h s p b d _ _ HC.out).mono ?_; rintro e w1 ⟨rfl, hb1⟩
      have R1 := hR.step hb1
      have B1 := below_step hB hb1
      clear hA hT hR hB hb1
      have rc0 := R1.cell 0
      have rf0 := R1.free 0
      have rc1 := R1.cell 1
      have rf1 := R1.free 1
      have rc2 := R1.cell 2
      have rf2 := R1.free 2
      have rc3 := R1.cell 3
      have rf3 := R1.free 3
      have rc4 := R1.cell 4
      have rf4 := R1.free 4
      have rc5 := R1.cell 5
      have rf5 := R1.free 5
      have rc6 := R1.cell 6
      have rf6 := R1.free 6
      go_wp2_with fail
      have F := put7 R1 (t := 24) (v0 := .int .i64 n) (v1 := .int .i64 i) (v2 := .int .i64 h) (v3 := .bool s) (v4 := .int .i64 p) (v5 := .int .i64 b) (v6 := .int .i64 d)
      have q0 := F.cell 0
      have q1 := F.cell 1
      have q2 := F.cell 2
      have q3 := F.cell 3
      have q4 := F.cell 4
      have q5 := F.cell 5
      have q6 := F.cell 6
      simp at q0 q1 q2 q3 q4 q5 q6
      exact bodyPost_ret (v := .tuple #[.agg #[.int .i64 n, .int .i64 i, .int .i64 h, .bool s, .int .i64 p, .int .i64 b, .int .i64 d], .int .i64 1]) (by simp [results, Try.results12, go_sem, q0, q1, q2, q3, q4, q5, q6]) rfl ⟨by rw [H.out]; rfl, below7 B1 (by omega)⟩
    · have e1 : decide (0 ≤ v) = true := decide_eq_true (by omega)
      cases s
      · by_cases c2 : h < v
        · have H := Lib.hid (show letR ⟨n, i, h, false, p, b, d⟩ v = (⟨n, i, h, false, p, b, d⟩, 19) by unfold letR; rw [if_pos hc, if_neg c1, if_neg (by simp), if_pos c2])
          have HC := Lib.hid hc
          clear hc
          have hmf : ∀ (fn : Fn) (first cap : Array Value) (w : World), (Instr.makeFunc fn first cap).run Try.prog w = .ok (.func fn first cap) w := fun _ _ _ _ => rfl
          go_enter Try.func12, Try.ntmps12
          go_wp2_with fail
          obtain ⟨W1, hW1⟩ : ∃ W1, W1 = (((w.alloc (.cells #[.int .i64 n, .int .i64 i, .int .i64 h, .bool false, .int .i64 p, .int .i64 b, .int .i64 d] 24)).alloc (.cells #[.int .i64 v] 2)).alloc (.cells #[.int .i64 0, .int .i64 0, .int .i64 0, .bool false, .int .i64 0, .int .i64 0, .int .i64 0] 24)) := ⟨_, rfl⟩
          rw [← hW1]
          obtain ⟨hA, hT, hR, hB⟩ := op_world w W1 n i h false p b d v hW1
          clear hW1
          refine (change_let_no n i h p b d v _ _ hT HC.out (by omega) (by omega)).mono ?_; rintro e w1 ⟨rfl, hb1⟩
          have R1 := hR.step hb1
          have B1 := below_step hB hb1
          clear hA hT hR hB hb1
          have rc0 := R1.cell 0
          have rf0 := R1.free 0
          have rc1 := R1.cell 1
          have rf1 := R1.free 1
          have rc2 := R1.cell 2
          have rf2 := R1.free 2
          have rc3 := R1.cell 3
          have rf3 := R1.free 3
          have rc4 := R1.cell 4
          have rf4 := R1.free 4
          have rc5 := R1.cell 5
          have rf5 := R1.free 5
          have rc6 := R1.cell 6
          have rf6 := R1.free 6
          go_wp2_with fail
          have F := put7 R1 (t := 24) (v0 := .int .i64 n) (v1 := .int .i64 i) (v2 := .int .i64 h) (v3 := .bool false) (v4 := .int .i64 p) (v5 := .int .i64 b) (v6 := .int .i64 d)
          have q0 := F.cell 0
          have q1 := F.cell 1
          have q2 := F.cell 2
          have q3 := F.cell 3
          have q4 := F.cell 4
          have q5 := F.cell 5
          have q6 := F.cell 6
          simp at q0 q1 q2 q3 q4 q5 q6
          exact bodyPost_ret (v := .tuple #[.agg #[.int .i64 n, .int .i64 i, .int .i64 h, .bool false, .int .i64 p, .int .i64 b, .int .i64 d], .int .i64 19]) (by simp [results, Try.results12, go_sem, q0, q1, q2, q3, q4, q5, q6]) rfl ⟨by rw [H.out]; rfl, below7 B1 (by omega)⟩
        · have H := Lib.hid (show letR ⟨n, i, h, false, p, b, d⟩ v = (⟨n, i, h - v, false, p, b, d⟩, 0) by unfold letR; rw [if_pos hc, if_neg c1, if_neg (by simp), if_neg c2])
          have HC := Lib.hid hc
          clear hc
          have hmf : ∀ (fn : Fn) (first cap : Array Value) (w : World), (Instr.makeFunc fn first cap).run Try.prog w = .ok (.func fn first cap) w := fun _ _ _ _ => rfl
          go_enter Try.func12, Try.ntmps12
          go_wp2_with fail
          obtain ⟨W1, hW1⟩ : ∃ W1, W1 = (((w.alloc (.cells #[.int .i64 n, .int .i64 i, .int .i64 h, .bool false, .int .i64 p, .int .i64 b, .int .i64 d] 24)).alloc (.cells #[.int .i64 v] 2)).alloc (.cells #[.int .i64 0, .int .i64 0, .int .i64 0, .bool false, .int .i64 0, .int .i64 0, .int .i64 0] 24)) := ⟨_, rfl⟩
          rw [← hW1]
          obtain ⟨hA, hT, hR, hB⟩ := op_world w W1 n i h false p b d v hW1
          clear hW1
          refine (change_let_yes n i h p b d v _ _ hT HC.out (by omega) (by omega)).mono ?_; rintro e w1 ⟨rfl, hb1⟩
          have R1 := hR.step hb1
          have B1 := below_step hB hb1
          clear hA hT hR hB hb1
          have rc0 := R1.cell 0
          have rf0 := R1.free 0
          have rc1 := R1.cell 1
          have rf1 := R1.free 1
          have rc2 := R1.cell 2
          have rf2 := R1.free 2
          have rc3 := R1.cell 3
          have rf3 := R1.free 3
          have rc4 := R1.cell 4
          have rf4 := R1.free 4
          have rc5 := R1.cell 5
          have rf5 := R1.free 5
          have rc6 := R1.cell 6
          have rf6 := R1.free 6
          go_wp2_with fail
          have F := put7 R1 (t := 24) (v0 := .int .i64 n) (v1 := .int .i64 i) (v2 := .int .i64 (h - v)) (v3 := .bool false) (v4 := .int .i64 p) (v5 := .int .i64 b) (v6 := .int .i64 d)
          have q0 := F.cell 0
          have q1 := F.cell 1
          have q2 := F.cell 2
          have q3 := F.cell 3
          have q4 := F.cell 4
          have q5 := F.cell 5
          have q6 := F.cell 6
          simp at q0 q1 q2 q3 q4 q5 q6
          exact bodyPost_ret (v := .tuple #[.agg #[.int .i64 n, .int .i64 i, .int .i64 (h - v), .bool false, .int .i64 p, .int .i64 b, .int .i64 d], .int .i64 0]) (by simp [results, Try.results12, go_sem, q0, q1, q2, q3, q4, q5, q6]) rfl ⟨by rw [H.out]; rfl, below7 B1 (by omega)⟩
      · have H := Lib.hid (show letR ⟨n, i, h, true, p, b, d⟩ v = (⟨n, i, h, true, p, b, d⟩, 13) by unfold letR; rw [if_pos hc, if_neg c1, if_pos rfl])
        have HC := Lib.hid hc
        clear hc
        have hmf : ∀ (fn : Fn) (first cap : Array Value) (w : World), (Instr.makeFunc fn first cap).run Try.prog w = .ok (.func fn first cap) w := fun _ _ _ _ => rfl
        go_enter Try.func12, Try.ntmps12
        go_wp2_with fail
        obtain ⟨W1, hW1⟩ : ∃ W1, W1 = (((w.alloc (.cells #[.int .i64 n, .int .i64 i, .int .i64 h, .bool true, .int .i64 p, .int .i64 b, .int .i64 d] 24)).alloc (.cells #[.int .i64 v] 2)).alloc (.cells #[.int .i64 0, .int .i64 0, .int .i64 0, .bool false, .int .i64 0, .int .i64 0, .int .i64 0] 24)) := ⟨_, rfl⟩
        rw [← hW1]
        obtain ⟨hA, hT, hR, hB⟩ := op_world w W1 n i h true p b d v hW1
        clear hW1
        refine (change_set n i h p b d _ _ HC.out).mono ?_; rintro e w1 ⟨rfl, hb1⟩
        have R1 := hR.step hb1
        have B1 := below_step hB hb1
        clear hA hT hR hB hb1
        have rc0 := R1.cell 0
        have rf0 := R1.free 0
        have rc1 := R1.cell 1
        have rf1 := R1.free 1
        have rc2 := R1.cell 2
        have rf2 := R1.free 2
        have rc3 := R1.cell 3
        have rf3 := R1.free 3
        have rc4 := R1.cell 4
        have rf4 := R1.free 4
        have rc5 := R1.cell 5
        have rf5 := R1.free 5
        have rc6 := R1.cell 6
        have rf6 := R1.free 6
        go_wp2_with fail
        have F := put7 R1 (t := 24) (v0 := .int .i64 n) (v1 := .int .i64 i) (v2 := .int .i64 h) (v3 := .bool true) (v4 := .int .i64 p) (v5 := .int .i64 b) (v6 := .int .i64 d)
        have q0 := F.cell 0
        have q1 := F.cell 1
        have q2 := F.cell 2
        have q3 := F.cell 3
        have q4 := F.cell 4
        have q5 := F.cell 5
        have q6 := F.cell 6
        simp at q0 q1 q2 q3 q4 q5 q6
        exact bodyPost_ret (v := .tuple #[.agg #[.int .i64 n, .int .i64 i, .int .i64 h, .bool true, .int .i64 p, .int .i64 b, .int .i64 d], .int .i64 13]) (by simp [results, Try.results12, go_sem, q0, q1, q2, q3, q4, q5, q6]) rfl ⟨by rw [H.out]; rfl, below7 B1 (by omega)⟩

end Go.Proofs.Ytmbapehnagpmbaa
