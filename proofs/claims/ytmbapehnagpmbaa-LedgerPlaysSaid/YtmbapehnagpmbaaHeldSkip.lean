/- A region whose order is open, walked by hand in the order of the text, over the kit's law of held regions: an operation whose guard is false is passed over first; a load or a move is taken first; a call is met where it alone may come up. -/
import Derived.Deep.RegionHeld3
namespace Go.Proofs.Ytmbapehnagpmbaa

set_option linter.unusedVariables false
section
variable {P : Program} {ops : Array Oper} {Q : Exit → Act → World → Prop} {md : Region.Mode} {S : World → Prop} {fuel : Nat} {listed : Array Bool} {a : Act} {w : World}

theorem held_start (n : Nat) (L0 : Array Bool) (hn : ops.size = n) (hL : Array.replicate n false = L0) (h : wpAnyH P md ops Q S n L0 a w) : wpAnyH P md ops Q S ops.size (Array.replicate ops.size false) a w := by
  subst hn hL
  exact h
theorem held_skip (i d : Nat) (L' : Array Bool) (hs : Region.noSelect ops = true) (hf : Region.free md ops listed i = true) (hr : (Region.ready md ops listed).contains i = true)
    (hd : (ops[i]?).map (·.dst) = some (some d)) (hw : (ops[i]?).map (fun o => Region.wanted o (yielded ops a.tmps)) = some false) (hL : listed.setIfInBounds i true = L')
    (hQ : ∀ c a w, Q (.panic c) (a.put (some d) undef) w → Q (.panic c) a w) (hS : S w) (h : wpAnyH P md ops Q S fuel L' (a.put (some d) undef) w) : wpAnyH P md ops Q S (fuel + 1) listed a w := by
  obtain ⟨o, ho, hd⟩ := Option.map_eq_some_iff.1 hd
  rw [ho] at hw
  have hw : Region.wanted o (yielded ops a.tmps) = false := by simpa using hw
  subst hL
  refine wpAnyH_take (v := undef) ho hs hf hr ?_ (Or.inr ⟨hw, rfl⟩) hS ?_
  · rw [hd]; exact hQ
  · rw [hd]; exact h
/-- What an operation yields in every world that meets S. -/
def YieldsAt (P : Program) (ops : Array Oper) (S : World → Prop) (i : Nat) (v : Value) (a : Act) : Prop :=
  match ops[i]? with
  | some o => ∀ w, S w → (execOp a.eval o).run P w = .ok (.value v) w
  | none => False
theorem held_take (i d : Nat) (v : Value) (L' : Array Bool) (hs : Region.noSelect ops = true) (hf : Region.free md ops listed i = true) (hr : (Region.ready md ops listed).contains i = true)
    (hd : (ops[i]?).map (·.dst) = some (some d)) (hw : (ops[i]?).map (fun o => Region.wanted o (yielded ops a.tmps)) = some true) (hL : listed.setIfInBounds i true = L')
    (hQ : ∀ c a w, Q (.panic c) (a.put (some d) v) w → Q (.panic c) a w) (hy : YieldsAt P ops S i v a) (hS : S w) (h : wpAnyH P md ops Q S fuel L' (a.put (some d) v) w) : wpAnyH P md ops Q S (fuel + 1) listed a w := by
  obtain ⟨o, ho, hd⟩ := Option.map_eq_some_iff.1 hd
  rw [ho] at hw
  have hw : Region.wanted o (yielded ops a.tmps) = true := by simpa using hw
  unfold YieldsAt at hy
  rw [ho] at hy
  subst hL
  refine wpAnyH_take (v := v) ho hs hf hr ?_ (Or.inl ⟨hw, hy⟩) hS ?_
  · rw [hd]; exact hQ
  · rw [hd]; exact h
/-- A call that alone may come up: met by its contract; behind it S is shown anew. -/
theorem held_call (i d f : Nat) (args : Array Value) (L' : Array Bool) (R : Value → World → Prop) (hr : Region.ready md ops listed = [i])
    (hd : (ops[i]?).map (·.dst) = some (some d)) (hw : (ops[i]?).map (fun o => Region.wanted o (yielded ops a.tmps)) = some true) (hL : listed.setIfInBounds i true = L')
    (hy : ∀ K : Act → World → Prop, (∀ v w', R v w' → K (a.put (some d) v) w') → match ops[i]? with | some o => Oper.wp P o a w K Q | none => False)
    (h : ∀ v w', R v w' → S w' ∧ wpAnyH P md ops Q S fuel L' (a.put (some d) v) w') : wpAnyH P md ops Q S (fuel + 1) listed a w := by
  obtain ⟨o, ho, hd⟩ := Option.map_eq_some_iff.1 hd
  rw [ho] at hw
  have hw : Region.wanted o (yielded ops a.tmps) = true := by simpa using hw
  subst hL
  refine wpAnyH_ready (rs := [i]) hr (by simp) (AllReadyH.cons ho (fun K hK => ?_) AllReadyH.nil)
  rw [if_pos hw]
  have := hy K (fun v w' hR => by
    have hh := h v w' hR
    have hk := hK.out (a.put (some d) v) w' hh.1 (fun _ => hh.2)
    exact hk)
  rw [ho] at this
  exact this
end
end Go.Proofs.Ytmbapehnagpmbaa
