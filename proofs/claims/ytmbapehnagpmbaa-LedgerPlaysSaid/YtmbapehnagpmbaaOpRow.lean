/- How a slice of steps (venduelaw16.Op) among a statement's arguments is opened: each step's four cells; and the contract of (Op).amount. -/
import Derived.Test.YtmbapehnagpmbaaLedgerRef3
import Derived.Test.YtmbapehnagpmbaaLedgerBal
import Derived.OpenShut
import Derived.Deep.Slices
import Derived.Deep.Fields
import Derived.ChangeSame
import Derived.Outline
namespace Go.Proofs.Ytmbapehnagpmbaa
open Go.RowKit Go.ChangeShapes Go.WideShapes Go.Deep
set_option linter.unusedVariables false

/-- Each of len steps lies in four cells. -/
def OpRow (w : World) (a : Option Addr) (len : Nat) : Prop :=
  0 < len → ∃ b o, a = some ⟨b, o, none⟩ ∧ b < w.heap.size ∧ ∀ i, i < len → ∃ (k n : Int) (near ends : Bool), -9223372036854775808 ≤ k ∧ k ≤ 9223372036854775807 ∧ -9223372036854775808 ≤ n ∧ n ≤ 9223372036854775807 ∧
    w.cell? ⟨b, o + i * 4, none⟩ = some (.int .i64 k) ∧ w.cell? ⟨b, o + i * 4 + 1, none⟩ = some (.int .i64 n) ∧ w.cell? ⟨b, o + i * 4 + 2, none⟩ = some (.bool near) ∧ w.cell? ⟨b, o + i * 4 + 3, none⟩ = some (.bool ends)

section
variable {H : Type} {enc : TypeId × Value → H} {P : Program} {W : World} {base : Nat} {spare : Nat → Bool} {held : Bool}
theorem open_cells {t e : TypeId} {fs : Array Field} {fuel : Nat} {cs : List Value} {x : DataW H × List MemPlace} (ht : P.underlying t = some (.slice e)) (he : P.underlying e = some (.struct fs))
    (hone : oneCellFields P fs = true) (hC : P.cellsOf e = fs.size) (h : DataW.trod enc P W base spare held fuel t cs = some x) :
    (cs = [.slice none 0 0]) ∨ ∃ (a : Addr) (len cap : Nat), cs = [.slice (some a) len cap] ∧ len ≤ cap ∧ cap ≤ maxLen ∧
      ∀ i, i < len → ∃ n, ∀ (j : Nat) (f : Field), fs[j]? = some f → ∃ (v : Value) (y : DataW H × List MemPlace), W.cell? (a.add (i * fs.size + j)) = some v ∧ DataW.trod enc P W base spare held n f.type [v] = some y := by
  rcases open_slice ht h with ⟨h0, _⟩ | ⟨a, len, cap, m, n, D, Pl, hcs, hb, hl, hm, hmm, hx, hi⟩
  · exact .inl h0
  · refine .inr ⟨a, len, cap, hcs, hl, hm, fun i hil => ?_⟩
    obtain ⟨cs', hc, ht'⟩ := hi i (by rw [hmm]; split <;> omega)
    rw [hC] at hc
    obtain ⟨ys, n', hn', hy, hlen, hyl, hf⟩ := DataW.trod_struct he ht'
    obtain ⟨_, hcl, hat⟩ := World.cells?_some hc
    refine ⟨n', fun j f hj => ?_⟩
    obtain ⟨ho, hk⟩ := hone_of hone j f hj
    have hjl : j < fs.size := (Array.getElem?_eq_some_iff.1 hj).1
    have hv : cs'[j]? = some (cs'[j]'(by omega)) := List.getElem?_eq_getElem (by omega)
    have h1 := hf j f hj
    rw [ho, hk] at h1
    have h2 : (cs'.drop j).take 1 = [cs'[j]'(by omega)] := by
      rw [List.drop_eq_getElem_cons (by omega)]
      rfl
    rw [h2] at h1
    have hys : ys[j]? = some (ys[j]'(by omega)) := List.getElem?_eq_getElem (by omega)
    refine ⟨_, _, ?_, h1.trans hys⟩
    rw [← Go.Deep.add_add, hat j hjl, hv]
theorem add_spot {b o k : Nat} {sp : Option Nat} (h : sp = none) : (⟨b, o, sp⟩ : Addr).add k = ⟨b, o + k, none⟩ := by
  subst h
  by_cases hk : k = 0
  · subst hk; simp [Addr.add]
  · simp [Addr.add, hk]
theorem open_ops {r : Reach} {b0 : Nat} {t e tk tn tb : TypeId} {v : Value} {d : DataW H} {p : List MemPlace} {f0 f1 f2 f3 : Field} (ht : P.underlying t = some (.slice e)) (he : P.underlying e = some (.struct #[f0, f1, f2, f3]))
    (hone : oneCellFields P #[f0, f1, f2, f3] = true) (hC : P.cellsOf e = 4) (e0 : f0.type = tk) (e1 : f1.type = tn) (e2 : f2.type = tb) (e3 : f3.type = tb)
    (hk : P.underlying tk = some (.int .i64)) (hn : P.underlying tn = some (.int .i64)) (hb : P.underlying tb = some .bool)
    (hv : Value.okWide P W r b0 t v) (h : DataW.Trod enc P W 0 (fun _ => true) true t v d p) : ∃ (a : Option Addr) (len cap : Nat), v = .slice a len cap ∧ len ≤ cap ∧ cap ≤ maxLen ∧ OpRow W a len := by
  obtain ⟨a, len, cap, rfl⟩ := okWide_slice ht hv
  obtain ⟨fuel, hf⟩ := h
  rcases open_cells ht he hone hC hf with hcs | ⟨x, len', cap', hcs, hl, hm, hcell⟩
  · simp [Value.cells] at hcs
    obtain ⟨rfl, rfl, rfl⟩ := hcs
    exact ⟨none, 0, 0, rfl, Nat.le_refl _, by unfold maxLen; omega, fun h => by omega⟩
  · simp [Value.cells] at hcs
    obtain ⟨rfl, rfl, rfl⟩ := hcs
    refine ⟨_, _, _, rfl, hl, hm, fun h0 => ?_⟩
    obtain ⟨b, o, sp⟩ := x
    obtain ⟨n0, hc0⟩ := hcell 0 h0
    obtain ⟨v0, _, hc00, _⟩ := hc0 0 f0 rfl
    have hs : sp = none := by simpa [Addr.add] using World.cell?_spot hc00
    refine ⟨b, o, by rw [hs], by simpa [Addr.add] using World.block_lt_of_cell? W _ hc00, fun i hi => ?_⟩
    obtain ⟨m, hc⟩ := hcell i hi
    obtain ⟨v0, y0, q0, t0⟩ := hc 0 f0 rfl
    obtain ⟨v1, y1, q1, t1⟩ := hc 1 f1 rfl
    obtain ⟨v2, y2, q2, t2⟩ := hc 2 f2 rfl
    obtain ⟨v3, y3, q3, t3⟩ := hc 3 f3 rfl
    rw [e0] at t0
    rw [e1] at t1
    rw [e2] at t2
    rw [e3] at t3
    obtain ⟨k, r0, _, w0⟩ := DataW.trod_int hk t0
    obtain ⟨n, r1, _, w1⟩ := DataW.trod_int hn t1
    obtain ⟨near, r2, _⟩ := DataW.trod_bool hb t2
    obtain ⟨ends, r3, _⟩ := DataW.trod_bool hb t3
    simp at r0 r1 r2 r3
    subst r0 r1 r2 r3
    rw [add_spot hs] at q0 q1 q2 q3
    have b0 := bd_i64 _ w0
    have b1 := bd_i64 _ w1
    exact ⟨k, n, near, ends, b0.1, b0.2, b1.1, b1.2, q0, q1, q2, q3⟩
end

theorem OpRow.step {w w' : World} {a : Option Addr} {len : Nat} (h : OpRow w a len) (hb : Below w.heap.size w w') : OpRow w' a len := fun h0 => by
  obtain ⟨b, o, e, hlt, hc⟩ := h h0
  refine ⟨b, o, e, Nat.lt_of_lt_of_le hlt hb.size, fun i hi => ?_⟩
  obtain ⟨k, n, near, ends, k0, k1, n0, n1, c0, c1, c2, c3⟩ := hc i hi
  exact ⟨k, n, near, ends, k0, k1, n0, n1, (hb.cell (p := ⟨b, _, none⟩) hlt).trans c0, (hb.cell (p := ⟨b, _, none⟩) hlt).trans c1, (hb.cell (p := ⟨b, _, none⟩) hlt).trans c2, (hb.cell (p := ⟨b, _, none⟩) hlt).trans c3⟩

def amZ (n : Int) (near : Bool) : Int := if near = true then bits .and .i64 n 1023 else n
theorem amount_any (k n : Int) (near ends : Bool) (w : World) :
    Calls Try.prog 15 #[.agg #[.int .i64 k, .int .i64 n, .bool near, .bool ends]] w fun e w' => e = .returned (.int .i64 (amZ n near)) ∧ Below w.heap.size w w' := by
  cases near
  · have H := Lib.hid (show amZ n false = n from rfl)
    go_enter Try.func15, Try.ntmps15
    go_wp2_with fail
    go_ret
    exact ⟨by rw [H.out]; rfl, (Below.refl _ _).alloc (Nat.le_refl _) _⟩
  · have H := Lib.hid (show amZ n true = bits .and .i64 n 1023 from rfl)
    go_enter Try.func15, Try.ntmps15
    go_wp2_with fail
    go_ret
    exact ⟨by rw [H.out]; rfl, (Below.refl _ _).alloc (Nat.le_refl _) _⟩
theorem mask_bd (n : Int) (m : Nat) (hm : m < 9223372036854775808) : 0 ≤ bits BinOp.and IntKind.i64 n (m : Int) ∧ bits BinOp.and IntKind.i64 n (m : Int) ≤ m := by
  show 0 ≤ IntKind.i64.wrap ((BitVec.ofInt 64 n &&& BitVec.ofInt 64 (m : Int)).toNat : Int) ∧ IntKind.i64.wrap ((BitVec.ofInt 64 n &&& BitVec.ofInt 64 (m : Int)).toNat : Int) ≤ m
  rw [BitVec.toNat_and]
  have e : (BitVec.ofInt 64 (m : Int)).toNat = m := by
    rw [BitVec.ofInt_natCast, BitVec.toNat_ofNat]
    exact Nat.mod_eq_of_lt (by omega)
  have h : (BitVec.ofInt 64 n).toNat &&& (BitVec.ofInt 64 (m : Int)).toNat ≤ m := by
    rw [e]
    exact Nat.and_le_right
  generalize (BitVec.ofInt 64 n).toNat &&& (BitVec.ofInt 64 (m : Int)).toNat = x at *
  rw [IntKind.wrap_i64]
  omega
theorem mask3 (n : Int) : 0 ≤ bits BinOp.and IntKind.i64 n 3 ∧ bits BinOp.and IntKind.i64 n 3 ≤ 3 := mask_bd n 3 (by omega)
end Go.Proofs.Ytmbapehnagpmbaa
