/- How a slice of int64 (or int) among a statement's arguments is opened: its numbers as a list, each with its cell. -/
import Derived.Test.YtjobdibkpddemaaMem
import Derived.Test.YtjobdibkpddemaaMoney
import Derived.OpenShut
import Derived.ChangeSlices
namespace Go.Proofs.Ytjobdibkpddemaa
open Go.RowKit Go.ChangeShapes Go.WideShapes
set_option linter.unusedVariables false
section
variable {H : Type} {enc : TypeId × Value → H} {P : Program} {W : World}
theorem open_row64 {r : Reach} {b0 : Nat} {t e : TypeId} {v : Value} {d : DataW H} {p : List MemPlace} (ht : P.underlying t = some (.slice e)) (he : P.underlying e = some (.int .i64)) (hc : P.cellsOf e = 1)
    (hv : Value.okWide P W r b0 t v) (h : DataW.Trod enc P W 0 (fun _ => true) true t v d p) :
    ∃ (a : Option Addr) (cap : Nat) (zs : List Int), v = .slice a zs.length cap ∧ zs.length ≤ cap ∧ cap ≤ maxLen ∧ Row64 W a zs ∧ In64 zs := by
  obtain ⟨a, len, cap, rfl⟩ := okWide_slice ht hv
  obtain ⟨fuel, hf⟩ := h
  rcases open_ints ht he hc hf with ⟨hcs, _⟩ | ⟨x, len', cap', zs, hcs, _, hl, hm, hz, _, hcell, hwf⟩
  · simp [Value.cells] at hcs
    obtain ⟨rfl, rfl, rfl⟩ := hcs
    exact ⟨none, 0, [], rfl, Nat.le_refl _, by unfold maxLen; omega, fun h => absurd h (by simp), fun i hi => absurd hi (by simp)⟩
  · simp [Value.cells] at hcs
    obtain ⟨rfl, rfl, rfl⟩ := hcs
    simp at hz
    have hlen : (zs.take len).length = len := by rw [List.length_take]; omega
    have hget : ∀ i, i < len → (zs.take len).getD i 0 = zs.getD i 0 := fun i hi => by simp [List.getD_eq_getElem?_getD, List.getElem?_take, hi]
    refine ⟨_, _, zs.take len, by rw [hlen], by rw [hlen]; exact hl, hm, fun h0 => ?_, fun i hi => ?_⟩
    · rw [hlen] at h0
      obtain ⟨b, o, sp⟩ := x
      have hc0 := hcell 0 (by omega)
      have hs : sp = none := by simpa [Addr.add] using World.cell?_spot hc0
      subst hs
      refine ⟨b, o, rfl, by simpa [Addr.add] using World.block_lt_of_cell? W _ hc0, fun i hi => ?_⟩
      rw [hlen] at hi
      rw [hget i hi]
      have h := hcell i (by omega)
      by_cases hi0 : i = 0
      · subst hi0
        simpa [Addr.add] using h
      · simpa [Addr.add, hi0] using h
    · rw [hlen] at hi
      rw [hget i hi]
      have hw := hwf (zs.getD i 0) (by rw [List.getD_eq_getElem?_getD, List.getElem?_eq_getElem (by omega)]; simp)
      exact bd_i64 _ hw
end
theorem row64_take {w : World} {a : Option Addr} {zs : List Int} (h : Row64 w a zs) (k : Nat) : Row64 w a (zs.take k) := fun h0 => by
  have hl : (zs.take k).length = min k zs.length := List.length_take
  obtain ⟨b, o, e, hb, hc⟩ := h (by omega)
  refine ⟨b, o, e, hb, fun i hi => ?_⟩
  rw [hc i (by omega)]
  simp [List.getD_eq_getElem?_getD, List.getElem?_take, show i < k by omega]
theorem in64_take {zs : List Int} (h : In64 zs) (k : Nat) : In64 (zs.take k) := fun i hi => by
  have hl : (zs.take k).length = min k zs.length := List.length_take
  have := h i (by omega)
  simpa [List.getD_eq_getElem?_getD, List.getElem?_take, show i < k by omega] using this
end Go.Proofs.Ytjobdibkpddemaa
