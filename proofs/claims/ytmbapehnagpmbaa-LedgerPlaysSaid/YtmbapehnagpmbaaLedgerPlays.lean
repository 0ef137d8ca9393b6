/- 'vendue/venduelaw16.LedgerPlays' answers true at every input, and leaves its arguments as they were: the given statement Rows.LedgerPlaysSaid. No condition. -/
import Derived.Test.YtmbapehnagpmbaaRows
import Derived.Test.YtmbapehnagpmbaaMem
import Derived.WalkKit
import Derived.ProofKit
import Derived.OpenShut
import Derived.Test.YtmbapehnagpmbaaLedgerPlaysFn
import Derived.Test.YtmbapehnagpmbaaOpenAcc
namespace Go.Proofs.Ytmbapehnagpmbaa.ledgerPlays
open Go.ChangeShapes Go.WideShapes Go.ChangeAt Go.RowKit
open Go.ChangeMaps (open_string shut_string)
set_option linter.unusedVariables false

set_option maxHeartbeats 3200000 in
theorem walk (x : Acc) (a : Option Addr) (len cap : Nat) (w : World) (k0 : len ≤ cap) (k1 : cap ≤ maxLen) (k2 : OpRow w a len) :
    Calls Try.prog 5 #[.agg #[.int .i64 x.n, .int .i64 x.i, .int .i64 x.h, .bool x.s, .int .i64 x.p, .int .i64 x.b, .int .i64 x.d], .slice a len cap] w fun e w' => e = .returned (.bool true) ∧ Below w.heap.size w w' := by
  unfold maxLen at k1
  have hl : len ≤ 9223372036854775807 := by omega
  go_enter Try.func5, Try.ntmps5
  go_wp2_with fail
  refine (awake_any _).mono ?_; rintro e w1 ⟨rfl, hb1⟩
  have B1 := below_step ((Below.refl _ _).alloc (Nat.le_refl _) _) hb1
  have A1 : AccAt w1 w.heap.size x := (At.new w 24 #[.int .i64 x.n, .int .i64 x.i, .int .i64 x.h, .bool x.s, .int .i64 x.p, .int .i64 x.b, .int .i64 x.d]).step hb1
  have O1 := k2.step B1
  obtain ⟨c0, c1, c2, c3, c4, c5, c6⟩ := A1.cells
  clear hb1 k2
  go_wp2_with fail
  refine (plays_any x a len cap _ O1 hl).mono ?_; rintro e w2 ⟨rfl, hb2⟩
  have B2 := below_step B1 hb2
  have O2 := O1.step hb2
  clear c0 c1 c2 c3 c4 c5 c6 A1 B1 O1 hb2
  go_wp2_with fail
  refine (plays_any ⟨3, 0, 0, false, 0, 0, 0⟩ a len cap _ O2 hl).mono ?_; rintro e w3 ⟨rfl, hb3⟩
  have B3 := below_step B2 hb3
  clear O2 B2 hb3
  go_wp2_with fail
  go_ret
  exact ⟨rfl, B3⟩

theorem own : ownKnob Try.prog.godebug = none := by kernel_rfl
theorem laidOut : laidOutB Try.prog = true := by kernel_rfl

set_option maxRecDepth 100000 in
theorem lifted (os : Os) (started : os.Started) (H : Type) (enc : TypeId × Value → H) :
    ReturnsInHanded {} Try.checked os 5 .any (Rows.ledgerPlaysSpec.pre6 enc Try.prog Try.f5 Rows.ledgerPlaysRow.domain false) (Rows.ledgerPlaysSpec.post enc Try.prog Try.f5 false true false false) := by
  refine returnsInHanded_of_change (C := Try.checked) own started (by kernel_rfl) Try.func5
    (ChangeSpec.witness6 (enc := enc) (C := Try.checked) false ⟨#[], #[.agg #[.int .i64 0, .int .i64 0, .int .i64 0, .bool false, .int .i64 0, .int .i64 0, .int .i64 0], .slice none 0 0], []⟩ 8 (by kernel_rfl) (by kernel_rfl) (by kernel_rfl) (by kernel_rfl)) ?_
  intro W base args ds gs before hval0 hW hcnd hsz
  have hval : ∀ (j : Nat) t v, Try.f5.params[j]? = some t → args[j]? = some v → Value.okWide Try.prog W .any base t v := hval0
  have hW' := hW
  obtain ⟨p, q, hA0, hV, rfl, hfz, hnd⟩ := hW
  have hA : DataW.TrodAll enc Try.prog W 0 (fun _ => true) true Try.f5.params.toList args.toList ds p := hA0
  rw [Try.params5] at hA hval
  obtain ⟨v0, vs0, d0, ds0, p0, q0, hargs, rfl, rfl, h0, r0⟩ := trodAll_cons hA
  obtain ⟨v1, vs1, d1, ds1, p1, q1, rfl, rfl, rfl, h1, r1⟩ := trodAll_cons r0
  obtain ⟨rfl, rfl, rfl⟩ := trodAll_nil r1
  obtain rfl : args = #[v0, v1] := by cases args; simp_all
  obtain ⟨rfl, rfl⟩ := trodVars_none hV
  obtain ⟨x, rfl⟩ := open_acc Try.underlying24 (by kernel_rfl) (by kernel_rfl) rfl rfl rfl rfl rfl rfl rfl Try.underlying3 Try.underlying2 Try.underlying4 (hval 0 24 v0 rfl rfl) h0
  obtain ⟨a, len, cap, rfl, k0, k1, k2⟩ := open_ops Try.underlying31 Try.underlying34 (by kernel_rfl) (by kernel_rfl) rfl rfl rfl rfl Try.underlying3 Try.underlying2 Try.underlying4 (hval 1 31 v1 rfl rfl) h1
  refine (walk x a len cap W k0 k1 k2).mono fun e W' ⟨he, hg⟩ => ?_
  subst he
  exact ⟨_, rfl, post_law laidOut (by kernel_rfl) rfl Try.underlying4 hW' rfl rfl hg⟩

theorem over : Rows.ledgerPlaysRow.holds Try.pinned (OpenSpec.ofChange Rows.ledgerPlaysSpec) :=
  OpenClaim.holds_of_wide 5 Try.f5 rfl rfl rfl rfl rfl rfl rfl ⟨rfl, rfl, rfl, rfl, rfl⟩ rfl rfl rfl rfl rfl (by kernel_rfl) Try.func5 (by kernel_rfl)
    (of_decide_eq_true (by kernel_rfl)) (by unfold Func.isWrapper; first | (rw [if_pos (by decide +kernel)]; kernel_rfl) | (rw [if_neg (by decide +kernel)]; exact ⟨rfl, rfl⟩))
    (fun os started H enc _ => lifted os started H enc)

/-- THE STATEMENT. -/
theorem proved : Rows.LedgerPlaysSaid := over
#print axioms proved
end Go.Proofs.Ytmbapehnagpmbaa.ledgerPlays
