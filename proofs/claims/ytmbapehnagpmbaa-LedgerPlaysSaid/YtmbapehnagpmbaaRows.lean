/-
  No cell of these rows narrows 'for every input' (looked for: loops, veiled, ifaces, maps, wideKeys, modest, calm, conditions, laid).
  DERIVED. THE GIVEN ROWS OF THIS SEAT. 5 by the template 'for every input the law returns true; each argument reads behind the call as it read before'; 0 by the template 'total and deterministic' (their statements: YtmbapehnagpmbaaTotals.lean).
  GIVEN WITH THE SEED: the statements are not yours to turn. If you find one false, say at which input.
  Laid BY PROGRAM, IN A SANDBOX (cutbox-rows.mjs): the forced cells as the released guide's own fill.sh prints them over the translation 1bf785bd37d328d4… (all of the seat's roots in one cut). By AI agents, Wed Nov 11 2026. No macro, syntax, notation, axiom, sorry.
-/
import Derived.Test.YtmbapehnagpmbaaChecked
import GoSem.Claim
import GoSem.ClaimJoined
import GoSem.ClaimMapViews
import Derived.JoinedTies
import Derived.KernelRfl
namespace Go.Proofs.Ytmbapehnagpmbaa
/- THE CELL 'sum', in the pinned program and in every row, IS THE sha256 OF THE DUMP (.gsa) THAT YtmbapehnagpmbaaProg.lean LOADS. Nothing in Lean hashes anything: it is a label: what it is worth is what the hold of that sum in a sandbox is worth. -/
noncomputable def Try.pinned : Pinned := { name := "ytmbapehnagpmbaa", sum := "1bf785bd37d328d47ac65fb07e9eb01c3c7b3b0f9d20310cb7f919f957599f10", checked := Try.checked }
namespace Rows
def none {H : Type} : Left H := { results := [], args := [] }

/-- 'venduelaw16.LedgerPays': WHATEVER THE INPUT: true; the input reads as it did. -/
def ledgerPaysSpec : ChangeSpec := { name := "ledgerPays", fn := fun _ => fun
  | [d1, d2, d3] => { results := [.lit (.bool true)], args := [d1, d2, d3] }
  | _ => none }
def ledgerPaysRow : OpenClaim := { program := "ytmbapehnagpmbaa", sum := "1bf785bd37d328d47ac65fb07e9eb01c3c7b3b0f9d20310cb7f919f957599f10", func := "vendue/venduelaw16.LedgerPays", spec := "ledgerPays", unfollowed := true, recurses := true, apart := false }
def LedgerPaysSaid : Prop := ledgerPaysRow.holds Try.pinned (OpenSpec.ofChange ledgerPaysSpec)

/-- ITS FALSE NEIGHBOUR: 'it returns false'. Refute it at one input. -/
def ledgerPaysWrong : ChangeSpec := { name := "ledgerPays", fn := fun _ => fun
  | [d1, d2, d3] => { results := [.lit (.bool false)], args := [d1, d2, d3] }
  | _ => none }
def LedgerPaysWrongFalsely : Prop := ledgerPaysRow.holds Try.pinned (OpenSpec.ofChange ledgerPaysWrong)

/-- 'venduelaw16.LedgerHolds': WHATEVER THE INPUT: true; the input reads as it did. -/
def ledgerHoldsSpec : ChangeSpec := { name := "ledgerHolds", fn := fun _ => fun
  | [d1, d2] => { results := [.lit (.bool true)], args := [d1, d2] }
  | _ => none }
def ledgerHoldsRow : OpenClaim := { program := "ytmbapehnagpmbaa", sum := "1bf785bd37d328d47ac65fb07e9eb01c3c7b3b0f9d20310cb7f919f957599f10", func := "vendue/venduelaw16.LedgerHolds", spec := "ledgerHolds", unfollowed := true, recurses := true, apart := false }
def LedgerHoldsSaid : Prop := ledgerHoldsRow.holds Try.pinned (OpenSpec.ofChange ledgerHoldsSpec)

/-- ITS FALSE NEIGHBOUR: 'it returns false'. Refute it at one input. -/
def ledgerHoldsWrong : ChangeSpec := { name := "ledgerHolds", fn := fun _ => fun
  | [d1, d2] => { results := [.lit (.bool false)], args := [d1, d2] }
  | _ => none }
def LedgerHoldsWrongFalsely : Prop := ledgerHoldsRow.holds Try.pinned (OpenSpec.ofChange ledgerHoldsWrong)

/-- 'venduelaw16.LedgerPlays': WHATEVER THE INPUT: true; the input reads as it did. -/
def ledgerPlaysSpec : ChangeSpec := { name := "ledgerPlays", fn := fun _ => fun
  | [d1, d2] => { results := [.lit (.bool true)], args := [d1, d2] }
  | _ => none }
def ledgerPlaysRow : OpenClaim := { program := "ytmbapehnagpmbaa", sum := "1bf785bd37d328d47ac65fb07e9eb01c3c7b3b0f9d20310cb7f919f957599f10", func := "vendue/venduelaw16.LedgerPlays", spec := "ledgerPlays", unfollowed := true, recurses := true, apart := false }
def LedgerPlaysSaid : Prop := ledgerPlaysRow.holds Try.pinned (OpenSpec.ofChange ledgerPlaysSpec)

/-- ITS FALSE NEIGHBOUR: 'it returns false'. Refute it at one input. -/
def ledgerPlaysWrong : ChangeSpec := { name := "ledgerPlays", fn := fun _ => fun
  | [d1, d2] => { results := [.lit (.bool false)], args := [d1, d2] }
  | _ => none }
def LedgerPlaysWrongFalsely : Prop := ledgerPlaysRow.holds Try.pinned (OpenSpec.ofChange ledgerPlaysWrong)

/-- 'venduelaw16.LedgerKeeps': WHATEVER THE INPUT: true; the input reads as it did. -/
def ledgerKeepsSpec : ChangeSpec := { name := "ledgerKeeps", fn := fun _ => fun
  | [d] => { results := [.lit (.bool true)], args := [d] }
  | _ => none }
def ledgerKeepsRow : OpenClaim := { program := "ytmbapehnagpmbaa", sum := "1bf785bd37d328d47ac65fb07e9eb01c3c7b3b0f9d20310cb7f919f957599f10", func := "vendue/venduelaw16.LedgerKeeps", spec := "ledgerKeeps", unfollowed := true, recurses := true, apart := false }
def LedgerKeepsSaid : Prop := ledgerKeepsRow.holds Try.pinned (OpenSpec.ofChange ledgerKeepsSpec)

/-- ITS FALSE NEIGHBOUR: 'it returns false'. Refute it at one input. -/
def ledgerKeepsWrong : ChangeSpec := { name := "ledgerKeeps", fn := fun _ => fun
  | [d] => { results := [.lit (.bool false)], args := [d] }
  | _ => none }
def LedgerKeepsWrongFalsely : Prop := ledgerKeepsRow.holds Try.pinned (OpenSpec.ofChange ledgerKeepsWrong)

/-- 'venduelaw16.LedgerAdds': WHATEVER THE INPUT: true; the input reads as it did. -/
def ledgerAddsSpec : ChangeSpec := { name := "ledgerAdds", fn := fun _ => fun
  | [d1, d2] => { results := [.lit (.bool true)], args := [d1, d2] }
  | _ => none }
def ledgerAddsRow : OpenClaim := { program := "ytmbapehnagpmbaa", sum := "1bf785bd37d328d47ac65fb07e9eb01c3c7b3b0f9d20310cb7f919f957599f10", func := "vendue/venduelaw16.LedgerAdds", spec := "ledgerAdds", inPlace := ["math/bits.Add64"], unfollowed := true, recurses := true, apart := false }
def LedgerAddsSaid : Prop := ledgerAddsRow.holds Try.pinned (OpenSpec.ofChange ledgerAddsSpec)

/-- ITS FALSE NEIGHBOUR: 'it returns false'. Refute it at one input. -/
def ledgerAddsWrong : ChangeSpec := { name := "ledgerAdds", fn := fun _ => fun
  | [d1, d2] => { results := [.lit (.bool false)], args := [d1, d2] }
  | _ => none }
def LedgerAddsWrongFalsely : Prop := ledgerAddsRow.holds Try.pinned (OpenSpec.ofChange ledgerAddsWrong)

/- THE SECOND FORM. 'bulk': how many values and letters a reading holds, each counted each time it is reached (what is shared counts as often as it is met; a slice's spare places count too). A statement '..UptoSaid' is the law's where the arguments, and the package variables that the reading takes, are together of bulk at most 1048576: NARROWER than '..Said'. Prove '..Said' where nothing that the law and all that it calls make is longer than what came in: it says more and counts as full. Else prove '..UptoSaid'. A law counts once. -/
mutual
def uptoBulk {H : Type} : DataW H → Nat
  | .lit (.string bytes) => bytes.length + 1
  | .lit _ => 1
  | .nil => 1
  | .ptr d => uptoBulk d + 1
  | .slice elems spare => uptoBulkAll elems + uptoBulkAll spare + 1
  | .agg parts => uptoBulkAll parts + 1
  | .iface _ d => uptoBulk d + 1
  | .map entries => uptoBulkEntries entries + 1
  | .held _ => 1
def uptoBulkAll {H : Type} : List (DataW H) → Nat
  | [] => 0
  | d :: r => uptoBulk d + uptoBulkAll r
def uptoBulkEntries {H : Type} : List (Lit × DataW H) → Nat
  | [] => 0
  | x :: r => uptoBulkEntry x + uptoBulkEntries r
def uptoBulkEntry {H : Type} : Lit × DataW H → Nat
  | (.string bytes, d) => bytes.length + uptoBulk d + 1
  | (_, d) => uptoBulk d + 1
 end
def uptoSmall : (H : Type) → List (DataW H) → Bool := fun _ ds => decide (uptoBulkAll ds ≤ 1048576)
def OpenSpec.upto (s : _root_.Go.ChangeSpec) : _root_.Go.OpenSpec := { _root_.Go.OpenSpec.ofChange s with cond := some uptoSmall }

/-- 'venduelaw16.LedgerPays', WHERE WHAT IT READS IS OF BULK AT MOST 1048576: true; the input reads as it did. -/
def ledgerPaysUptoRow : OpenClaim := { program := "ytmbapehnagpmbaa", sum := "1bf785bd37d328d47ac65fb07e9eb01c3c7b3b0f9d20310cb7f919f957599f10", func := "vendue/venduelaw16.LedgerPays", spec := "ledgerPays", unfollowed := true, recurses := true, apart := false, narrowed := true }
def LedgerPaysUptoSaid : Prop := ledgerPaysUptoRow.holds Try.pinned (OpenSpec.upto ledgerPaysSpec)

/-- 'venduelaw16.LedgerHolds', WHERE WHAT IT READS IS OF BULK AT MOST 1048576: true; the input reads as it did. -/
def ledgerHoldsUptoRow : OpenClaim := { program := "ytmbapehnagpmbaa", sum := "1bf785bd37d328d47ac65fb07e9eb01c3c7b3b0f9d20310cb7f919f957599f10", func := "vendue/venduelaw16.LedgerHolds", spec := "ledgerHolds", unfollowed := true, recurses := true, apart := false, narrowed := true }
def LedgerHoldsUptoSaid : Prop := ledgerHoldsUptoRow.holds Try.pinned (OpenSpec.upto ledgerHoldsSpec)

/-- 'venduelaw16.LedgerPlays', WHERE WHAT IT READS IS OF BULK AT MOST 1048576: true; the input reads as it did. -/
def ledgerPlaysUptoRow : OpenClaim := { program := "ytmbapehnagpmbaa", sum := "1bf785bd37d328d47ac65fb07e9eb01c3c7b3b0f9d20310cb7f919f957599f10", func := "vendue/venduelaw16.LedgerPlays", spec := "ledgerPlays", unfollowed := true, recurses := true, apart := false, narrowed := true }
def LedgerPlaysUptoSaid : Prop := ledgerPlaysUptoRow.holds Try.pinned (OpenSpec.upto ledgerPlaysSpec)

/-- 'venduelaw16.LedgerKeeps', WHERE WHAT IT READS IS OF BULK AT MOST 1048576: true; the input reads as it did. -/
def ledgerKeepsUptoRow : OpenClaim := { program := "ytmbapehnagpmbaa", sum := "1bf785bd37d328d47ac65fb07e9eb01c3c7b3b0f9d20310cb7f919f957599f10", func := "vendue/venduelaw16.LedgerKeeps", spec := "ledgerKeeps", unfollowed := true, recurses := true, apart := false, narrowed := true }
def LedgerKeepsUptoSaid : Prop := ledgerKeepsUptoRow.holds Try.pinned (OpenSpec.upto ledgerKeepsSpec)

/-- 'venduelaw16.LedgerAdds', WHERE WHAT IT READS IS OF BULK AT MOST 1048576: true; the input reads as it did. -/
def ledgerAddsUptoRow : OpenClaim := { program := "ytmbapehnagpmbaa", sum := "1bf785bd37d328d47ac65fb07e9eb01c3c7b3b0f9d20310cb7f919f957599f10", func := "vendue/venduelaw16.LedgerAdds", spec := "ledgerAdds", inPlace := ["math/bits.Add64"], unfollowed := true, recurses := true, apart := false, narrowed := true }
def LedgerAddsUptoSaid : Prop := ledgerAddsUptoRow.holds Try.pinned (OpenSpec.upto ledgerAddsSpec)

end Rows
end Go.Proofs.Ytmbapehnagpmbaa
