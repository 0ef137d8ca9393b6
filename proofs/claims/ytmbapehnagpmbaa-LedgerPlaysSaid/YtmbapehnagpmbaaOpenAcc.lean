/- How an account by value among a statement's arguments is opened: seven fields of one cell. -/
import Derived.Test.YtmbapehnagpmbaaMem
import Derived.Test.YtmbapehnagpmbaaLedger
import Derived.Lib.SmallJoins
import Derived.Deep.Fields
namespace Go.Proofs.Ytmbapehnagpmbaa
open Go.Joins Go.ChangeShapes Go.WideShapes Go.RowKit Go.Deep
set_option linter.unusedVariables false
section
variable {H : Type} {enc : TypeId × Value → H} {P : Program} {W : World}
theorem open_acc {r : Reach} {b0 : Nat} {t tk tn tb : TypeId} {f0 f1 f2 f3 f4 f5 f6 : Field} {v : Value} {d : DataW H} {p : List MemPlace} (hs : P.underlying t = some (.struct #[f0, f1, f2, f3, f4, f5, f6])) (hone : oneCellFields P #[f0, f1, f2, f3, f4, f5, f6] = true) (hC : P.cellsOf t = 7)
    (e0 : f0.type = tk) (e1 : f1.type = tn) (e2 : f2.type = tn) (e3 : f3.type = tb) (e4 : f4.type = tn) (e5 : f5.type = tn) (e6 : f6.type = tn)
    (hk : P.underlying tk = some (.int .i64)) (hn : P.underlying tn = some (.int .i64)) (hb : P.underlying tb = some .bool)
    (hv : Value.okWide P W r b0 t v) (h : DataW.Trod enc P W 0 (fun _ => true) true t v d p) :
    ∃ x : Acc, v = .agg #[.int .i64 x.n, .int .i64 x.i, .int .i64 x.h, .bool x.s, .int .i64 x.p, .int .i64 x.b, .int .i64 x.d] := by
  obtain ⟨⟨l⟩, rfl, hsz⟩ := okWide_struct hs hv
  match l, hsz.trans hC with
  | [c0, c1, c2, c3, c4, c5, c6], _ =>
    obtain ⟨fuel, hf⟩ := h
    obtain ⟨xs, n, _, _, _, hlen, hg⟩ := DataW.trod_struct hs hf
    obtain ⟨o0, k0⟩ := hone_of hone 0 f0 rfl
    obtain ⟨o1, k1⟩ := hone_of hone 1 f1 rfl
    obtain ⟨o2, k2⟩ := hone_of hone 2 f2 rfl
    obtain ⟨o3, k3⟩ := hone_of hone 3 f3 rfl
    obtain ⟨o4, k4⟩ := hone_of hone 4 f4 rfl
    obtain ⟨o5, k5⟩ := hone_of hone 5 f5 rfl
    obtain ⟨o6, k6⟩ := hone_of hone 6 f6 rfl
    match xs, hlen with
    | [y0, y1, y2, y3, y4, y5, y6], _ =>
      have t0 : DataW.trod enc P W 0 (fun _ => true) true n f0.type [c0] = some y0 := by simpa [Value.cells, o0, k0] using hg 0 f0 rfl
      have t1 : DataW.trod enc P W 0 (fun _ => true) true n f1.type [c1] = some y1 := by simpa [Value.cells, o1, k1] using hg 1 f1 rfl
      have t2 : DataW.trod enc P W 0 (fun _ => true) true n f2.type [c2] = some y2 := by simpa [Value.cells, o2, k2] using hg 2 f2 rfl
      have t3 : DataW.trod enc P W 0 (fun _ => true) true n f3.type [c3] = some y3 := by simpa [Value.cells, o3, k3] using hg 3 f3 rfl
      have t4 : DataW.trod enc P W 0 (fun _ => true) true n f4.type [c4] = some y4 := by simpa [Value.cells, o4, k4] using hg 4 f4 rfl
      have t5 : DataW.trod enc P W 0 (fun _ => true) true n f5.type [c5] = some y5 := by simpa [Value.cells, o5, k5] using hg 5 f5 rfl
      have t6 : DataW.trod enc P W 0 (fun _ => true) true n f6.type [c6] = some y6 := by simpa [Value.cells, o6, k6] using hg 6 f6 rfl
      rw [e0] at t0
      rw [e1] at t1
      rw [e2] at t2
      rw [e3] at t3
      rw [e4] at t4
      rw [e5] at t5
      rw [e6] at t6
      obtain ⟨a0, r0, _⟩ := DataW.trod_int hk t0
      obtain ⟨a1, r1, _⟩ := DataW.trod_int hn t1
      obtain ⟨a2, r2, _⟩ := DataW.trod_int hn t2
      obtain ⟨a3, r3, _⟩ := DataW.trod_bool hb t3
      obtain ⟨a4, r4, _⟩ := DataW.trod_int hn t4
      obtain ⟨a5, r5, _⟩ := DataW.trod_int hn t5
      obtain ⟨a6, r6, _⟩ := DataW.trod_int hn t6
      simp at r0 r1 r2 r3 r4 r5 r6
      subst r0 r1 r2 r3 r4 r5 r6
      exact ⟨⟨a0, a1, a2, a3, a4, a5, a6⟩, rfl⟩
end
end Go.Proofs.Ytmbapehnagpmbaa
