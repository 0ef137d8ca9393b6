/- How the statements' arguments of chapter 17 are opened: structs of whole numbers by value. -/
import Derived.Test.YtidhleeoeapjmaaMem
import Derived.Lib.SmallJoins
namespace Go.Proofs.Ytidhleeoeapjmaa
open Go.RowKit Go.ChangeShapes Go.WideShapes Go.Joins
section
variable {H : Type} {enc : TypeId × Value → H} {P : Program} {W : World} {base : Nat}
theorem open_num {r : Reach} {b0 : Nat} {t t0 t1 : TypeId} {v : Value} {d : DataW H} {p : List MemPlace} {f0 f1 f2 f3 : Field}
    (hs : P.underlying t = some (.struct #[f0, f1, f2, f3])) (hone : Go.Deep.oneCellFields P #[f0, f1, f2, f3] = true) (hC : P.cellsOf t = 4)
    (e0 : f0.type = t0) (e1 : f1.type = t0) (e2 : f2.type = t0) (e3 : f3.type = t1) (h0 : P.underlying t0 = some (.int .i64)) (h1 : P.underlying t1 = some (.int .i64))
    (hv : Value.okWide P W r b0 t v) (h : DataW.Trod enc P W 0 (fun _ => true) true t v d p) :
    ∃ a b c e : Int, v = .agg #[.int .i64 a, .int .i64 b, .int .i64 c, .int .i64 e] ∧ (Lit.int .i64 a).wf = true ∧ (Lit.int .i64 b).wf = true ∧ (Lit.int .i64 c).wf = true ∧ (Lit.int .i64 e).wf = true := by
  obtain ⟨c0, c1, c2, c3, y0, y1, y2, y3, m, rfl, _, _, k0, k1, k2, k3⟩ := open_agg4 hs hone hC hv h
  rw [e0] at k0
  rw [e1] at k1
  rw [e2] at k2
  rw [e3] at k3
  obtain ⟨a, q0, _, w0⟩ := DataW.trod_int h0 k0
  obtain ⟨b, q1, _, w1⟩ := DataW.trod_int h0 k1
  obtain ⟨c, q2, _, w2⟩ := DataW.trod_int h0 k2
  obtain ⟨e, q3, _, w3⟩ := DataW.trod_int h1 k3
  simp at q0 q1 q2 q3
  subst q0 q1 q2 q3
  exact ⟨a, b, c, e, rfl, w0, w1, w2, w3⟩
end
end Go.Proofs.Ytidhleeoeapjmaa
