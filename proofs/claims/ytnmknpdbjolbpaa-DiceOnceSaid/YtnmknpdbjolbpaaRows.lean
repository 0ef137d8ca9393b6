/-
  No cell of these rows narrows 'for every input' (looked for: loops, veiled, ifaces, maps, wideKeys, modest, calm, conditions, laid).
  DERIVED. THE GIVEN ROWS OF THIS SEAT. 7 by the template 'for every input the law returns true; each argument reads behind the call as it read before'; 0 by the template 'total and deterministic' (their statements: YtnmknpdbjolbpaaTotals.lean).
  GIVEN WITH THE SEED: the statements are not yours to turn. If you find one false, say at which input.
  Laid BY PROGRAM, IN A SANDBOX (cutbox-rows.mjs): the forced cells as the released guide's own fill.sh prints them over the translation b2600dff304e62ec… (all of the seat's roots in one cut). By AI agents, Wed Nov 11 2026. No macro, syntax, notation, axiom, sorry.
-/
import Derived.Test.YtnmknpdbjolbpaaChecked
import GoSem.Claim
import GoSem.ClaimJoined
import GoSem.ClaimMapViews
import Derived.JoinedTies
import Derived.KernelRfl
namespace Go.Proofs.Ytnmknpdbjolbpaa
/- THE CELL 'sum', in the pinned program and in every row, IS THE sha256 OF THE DUMP (.gsa) THAT YtnmknpdbjolbpaaProg.lean LOADS. Nothing in Lean hashes anything: it is a label: what it is worth is what the hold of that sum in a sandbox is worth. -/
noncomputable def Try.pinned : Pinned := { name := "ytnmknpdbjolbpaa", sum := "b2600dff304e62ec3e93931b31a16ed3abee56721d201dd1a622e30aa56d8f33", checked := Try.checked }
namespace Rows
def none {H : Type} : Left H := { results := [], args := [] }

/-- 'venduelaw15.DiceMix': WHATEVER THE INPUT: true; the input reads as it did. -/
def diceMixSpec : ChangeSpec := { name := "diceMix", fn := fun _ => fun
  | [d1, d2] => { results := [.lit (.bool true)], args := [d1, d2] }
  | _ => none }
def diceMixRow : OpenClaim := { program := "ytnmknpdbjolbpaa", sum := "b2600dff304e62ec3e93931b31a16ed3abee56721d201dd1a622e30aa56d8f33", func := "vendue/venduelaw15.DiceMix", spec := "diceMix", apart := false }
def DiceMixSaid : Prop := diceMixRow.holds Try.pinned (OpenSpec.ofChange diceMixSpec)

/-- ITS FALSE NEIGHBOUR: 'it returns false'. Refute it at one input. -/
def diceMixWrong : ChangeSpec := { name := "diceMix", fn := fun _ => fun
  | [d1, d2] => { results := [.lit (.bool false)], args := [d1, d2] }
  | _ => none }
def DiceMixWrongFalsely : Prop := diceMixRow.holds Try.pinned (OpenSpec.ofChange diceMixWrong)

/-- 'venduelaw15.DiceFar': WHATEVER THE INPUT: true; the input reads as it did. -/
def diceFarSpec : ChangeSpec := { name := "diceFar", fn := fun _ => fun
  | [d1, d2, d3] => { results := [.lit (.bool true)], args := [d1, d2, d3] }
  | _ => none }
def diceFarRow : OpenClaim := { program := "ytnmknpdbjolbpaa", sum := "b2600dff304e62ec3e93931b31a16ed3abee56721d201dd1a622e30aa56d8f33", func := "vendue/venduelaw15.DiceFar", spec := "diceFar", apart := false }
def DiceFarSaid : Prop := diceFarRow.holds Try.pinned (OpenSpec.ofChange diceFarSpec)

/-- ITS FALSE NEIGHBOUR: 'it returns false'. Refute it at one input. -/
def diceFarWrong : ChangeSpec := { name := "diceFar", fn := fun _ => fun
  | [d1, d2, d3] => { results := [.lit (.bool false)], args := [d1, d2, d3] }
  | _ => none }
def DiceFarWrongFalsely : Prop := diceFarRow.holds Try.pinned (OpenSpec.ofChange diceFarWrong)

/-- 'venduelaw15.DiceNil': WHATEVER THE INPUT: true; the input reads as it did. -/
def diceNilSpec : ChangeSpec := { name := "diceNil", fn := fun _ => fun
  | [d] => { results := [.lit (.bool true)], args := [d] }
  | _ => none }
def diceNilRow : OpenClaim := { program := "ytnmknpdbjolbpaa", sum := "b2600dff304e62ec3e93931b31a16ed3abee56721d201dd1a622e30aa56d8f33", func := "vendue/venduelaw15.DiceNil", spec := "diceNil", apart := false }
def DiceNilSaid : Prop := diceNilRow.holds Try.pinned (OpenSpec.ofChange diceNilSpec)

/-- ITS FALSE NEIGHBOUR: 'it returns false'. Refute it at one input. -/
def diceNilWrong : ChangeSpec := { name := "diceNil", fn := fun _ => fun
  | [d] => { results := [.lit (.bool false)], args := [d] }
  | _ => none }
def DiceNilWrongFalsely : Prop := diceNilRow.holds Try.pinned (OpenSpec.ofChange diceNilWrong)

/-- 'venduelaw15.DiceTell': WHATEVER THE INPUT: true; the input reads as it did. -/
def diceTellSpec : ChangeSpec := { name := "diceTell", fn := fun _ => fun
  | [d1, d2, d3] => { results := [.lit (.bool true)], args := [d1, d2, d3] }
  | _ => none }
def diceTellRow : OpenClaim := { program := "ytnmknpdbjolbpaa", sum := "b2600dff304e62ec3e93931b31a16ed3abee56721d201dd1a622e30aa56d8f33", func := "vendue/venduelaw15.DiceTell", spec := "diceTell", apart := false }
def DiceTellSaid : Prop := diceTellRow.holds Try.pinned (OpenSpec.ofChange diceTellSpec)

/-- ITS FALSE NEIGHBOUR: 'it returns false'. Refute it at one input. -/
def diceTellWrong : ChangeSpec := { name := "diceTell", fn := fun _ => fun
  | [d1, d2, d3] => { results := [.lit (.bool false)], args := [d1, d2, d3] }
  | _ => none }
def DiceTellWrongFalsely : Prop := diceTellRow.holds Try.pinned (OpenSpec.ofChange diceTellWrong)

/-- 'venduelaw15.DiceBelow': WHATEVER THE INPUT: true; the input reads as it did. -/
def diceBelowSpec : ChangeSpec := { name := "diceBelow", fn := fun _ => fun
  | [d1, d2] => { results := [.lit (.bool true)], args := [d1, d2] }
  | _ => none }
def diceBelowRow : OpenClaim := { program := "ytnmknpdbjolbpaa", sum := "b2600dff304e62ec3e93931b31a16ed3abee56721d201dd1a622e30aa56d8f33", func := "vendue/venduelaw15.DiceBelow", spec := "diceBelow", apart := false }
def DiceBelowSaid : Prop := diceBelowRow.holds Try.pinned (OpenSpec.ofChange diceBelowSpec)

/-- ITS FALSE NEIGHBOUR: 'it returns false'. Refute it at one input. -/
def diceBelowWrong : ChangeSpec := { name := "diceBelow", fn := fun _ => fun
  | [d1, d2] => { results := [.lit (.bool false)], args := [d1, d2] }
  | _ => none }
def DiceBelowWrongFalsely : Prop := diceBelowRow.holds Try.pinned (OpenSpec.ofChange diceBelowWrong)

/-- 'venduelaw15.DiceOrders': WHATEVER THE INPUT: true; the input reads as it did. -/
def diceOrdersSpec : ChangeSpec := { name := "diceOrders", fn := fun _ => fun
  | [d1, d2] => { results := [.lit (.bool true)], args := [d1, d2] }
  | _ => none }
def diceOrdersRow : OpenClaim := { program := "ytnmknpdbjolbpaa", sum := "b2600dff304e62ec3e93931b31a16ed3abee56721d201dd1a622e30aa56d8f33", func := "vendue/venduelaw15.DiceOrders", spec := "diceOrders", unfollowed := true, recurses := true, apart := false }
def DiceOrdersSaid : Prop := diceOrdersRow.holds Try.pinned (OpenSpec.ofChange diceOrdersSpec)

/-- ITS FALSE NEIGHBOUR: 'it returns false'. Refute it at one input. -/
def diceOrdersWrong : ChangeSpec := { name := "diceOrders", fn := fun _ => fun
  | [d1, d2] => { results := [.lit (.bool false)], args := [d1, d2] }
  | _ => none }
def DiceOrdersWrongFalsely : Prop := diceOrdersRow.holds Try.pinned (OpenSpec.ofChange diceOrdersWrong)

/-- 'venduelaw15.DiceOnce': WHATEVER THE INPUT: true; the input reads as it did. -/
def diceOnceSpec : ChangeSpec := { name := "diceOnce", fn := fun _ => fun
  | [d1, d2] => { results := [.lit (.bool true)], args := [d1, d2] }
  | _ => none }
def diceOnceRow : OpenClaim := { program := "ytnmknpdbjolbpaa", sum := "b2600dff304e62ec3e93931b31a16ed3abee56721d201dd1a622e30aa56d8f33", func := "vendue/venduelaw15.DiceOnce", spec := "diceOnce", unfollowed := true, recurses := true, apart := false }
def DiceOnceSaid : Prop := diceOnceRow.holds Try.pinned (OpenSpec.ofChange diceOnceSpec)

/-- ITS FALSE NEIGHBOUR: 'it returns false'. Refute it at one input. -/
def diceOnceWrong : ChangeSpec := { name := "diceOnce", fn := fun _ => fun
  | [d1, d2] => { results := [.lit (.bool false)], args := [d1, d2] }
  | _ => none }
def DiceOnceWrongFalsely : Prop := diceOnceRow.holds Try.pinned (OpenSpec.ofChange diceOnceWrong)

/- THE SECOND FORM. 'bulk': how many values and letters a reading holds, each counted each time it is reached (what is shared counts as often as it is met; a slice's spare places count too). A statement '..UptoSaid' is the law's where the arguments, and the package variables that the reading takes, are together of bulk at most 1048576: NARROWER than '..Said'. Prove '..Said' where nothing that the law and all that it calls make is longer than what came in: it says more and counts as full. Else prove '..UptoSaid'. A law counts once. -/
mutual
def uptoBulk {H : Type} : DataW H → Nat
  | .lit (.string bytes) => bytes.length + 1
  | .lit _ => 1
  | .nil => 1
  | .ptr d => uptoBulk d + 1
  | .slice elems spare => uptoBulkAll elems + uptoBulkAll spare + 1
  | .agg parts => uptoBulkAll parts + 1
  | .iface _ d => uptoBulk d + 1
  | .map entries => uptoBulkEntries entries + 1
  | .held _ => 1
def uptoBulkAll {H : Type} : List (DataW H) → Nat
  | [] => 0
  | d :: r => uptoBulk d + uptoBulkAll r
def uptoBulkEntries {H : Type} : List (Lit × DataW H) → Nat
  | [] => 0
  | x :: r => uptoBulkEntry x + uptoBulkEntries r
def uptoBulkEntry {H : Type} : Lit × DataW H → Nat
  | (.string bytes, d) => bytes.length + uptoBulk d + 1
  | (_, d) => uptoBulk d + 1
 end
def uptoSmall : (H : Type) → List (DataW H) → Bool := fun _ ds => decide (uptoBulkAll ds ≤ 1048576)
def OpenSpec.upto (s : _root_.Go.ChangeSpec) : _root_.Go.OpenSpec := { _root_.Go.OpenSpec.ofChange s with cond := some uptoSmall }

/-- 'venduelaw15.DiceMix', WHERE WHAT IT READS IS OF BULK AT MOST 1048576: true; the input reads as it did. -/
def diceMixUptoRow : OpenClaim := { program := "ytnmknpdbjolbpaa", sum := "b2600dff304e62ec3e93931b31a16ed3abee56721d201dd1a622e30aa56d8f33", func := "vendue/venduelaw15.DiceMix", spec := "diceMix", apart := false, narrowed := true }
def DiceMixUptoSaid : Prop := diceMixUptoRow.holds Try.pinned (OpenSpec.upto diceMixSpec)

/-- 'venduelaw15.DiceFar', WHERE WHAT IT READS IS OF BULK AT MOST 1048576: true; the input reads as it did. -/
def diceFarUptoRow : OpenClaim := { program := "ytnmknpdbjolbpaa", sum := "b2600dff304e62ec3e93931b31a16ed3abee56721d201dd1a622e30aa56d8f33", func := "vendue/venduelaw15.DiceFar", spec := "diceFar", apart := false, narrowed := true }
def DiceFarUptoSaid : Prop := diceFarUptoRow.holds Try.pinned (OpenSpec.upto diceFarSpec)

/-- 'venduelaw15.DiceNil', WHERE WHAT IT READS IS OF BULK AT MOST 1048576: true; the input reads as it did. -/
def diceNilUptoRow : OpenClaim := { program := "ytnmknpdbjolbpaa", sum := "b2600dff304e62ec3e93931b31a16ed3abee56721d201dd1a622e30aa56d8f33", func := "vendue/venduelaw15.DiceNil", spec := "diceNil", apart := false, narrowed := true }
def DiceNilUptoSaid : Prop := diceNilUptoRow.holds Try.pinned (OpenSpec.upto diceNilSpec)

/-- 'venduelaw15.DiceTell', WHERE WHAT IT READS IS OF BULK AT MOST 1048576: true; the input reads as it did. -/
def diceTellUptoRow : OpenClaim := { program := "ytnmknpdbjolbpaa", sum := "b2600dff304e62ec3e93931b31a16ed3abee56721d201dd1a622e30aa56d8f33", func := "vendue/venduelaw15.DiceTell", spec := "diceTell", apart := false, narrowed := true }
def DiceTellUptoSaid : Prop := diceTellUptoRow.holds Try.pinned (OpenSpec.upto diceTellSpec)

/-- 'venduelaw15.DiceBelow', WHERE WHAT IT READS IS OF BULK AT MOST 1048576: true; the input reads as it did. -/
def diceBelowUptoRow : OpenClaim := { program := "ytnmknpdbjolbpaa", sum := "b2600dff304e62ec3e93931b31a16ed3abee56721d201dd1a622e30aa56d8f33", func := "vendue/venduelaw15.DiceBelow", spec := "diceBelow", apart := false, narrowed := true }
def DiceBelowUptoSaid : Prop := diceBelowUptoRow.holds Try.pinned (OpenSpec.upto diceBelowSpec)

/-- 'venduelaw15.DiceOrders', WHERE WHAT IT READS IS OF BULK AT MOST 1048576: true; the input reads as it did. -/
def diceOrdersUptoRow : OpenClaim := { program := "ytnmknpdbjolbpaa", sum := "b2600dff304e62ec3e93931b31a16ed3abee56721d201dd1a622e30aa56d8f33", func := "vendue/venduelaw15.DiceOrders", spec := "diceOrders", unfollowed := true, recurses := true, apart := false, narrowed := true }
def DiceOrdersUptoSaid : Prop := diceOrdersUptoRow.holds Try.pinned (OpenSpec.upto diceOrdersSpec)

/-- 'venduelaw15.DiceOnce', WHERE WHAT IT READS IS OF BULK AT MOST 1048576: true; the input reads as it did. -/
def diceOnceUptoRow : OpenClaim := { program := "ytnmknpdbjolbpaa", sum := "b2600dff304e62ec3e93931b31a16ed3abee56721d201dd1a622e30aa56d8f33", func := "vendue/venduelaw15.DiceOnce", spec := "diceOnce", unfollowed := true, recurses := true, apart := false, narrowed := true }
def DiceOnceUptoSaid : Prop := diceOnceUptoRow.holds Try.pinned (OpenSpec.upto diceOnceSpec)

end Rows
end Go.Proofs.Ytnmknpdbjolbpaa
