/-
  No cell of these rows narrows 'for every input' (looked for: loops, veiled, ifaces, maps, wideKeys, modest, calm, conditions, laid).
  DERIVED. THE GIVEN ROWS OF THIS SEAT. 6 by the template 'for every input the law returns true; each argument reads behind the call as it read before'; 0 by the template 'total and deterministic' (their statements: YtidhleeoeapjmaaTotals.lean).
  GIVEN WITH THE SEED: the statements are not yours to turn. If you find one false, say at which input.
  Laid BY PROGRAM, IN A SANDBOX (cutbox-rows.mjs): the forced cells as the released guide's own fill.sh prints them over the translation 1dc9420aea931fa4… (all of the seat's roots in one cut). By AI agents, Wed Nov 11 2026. No macro, syntax, notation, axiom, sorry.
-/
import Derived.Test.YtidhleeoeapjmaaChecked
import GoSem.Claim
import GoSem.ClaimJoined
import GoSem.ClaimMapViews
import Derived.JoinedTies
import Derived.KernelRfl
namespace Go.Proofs.Ytidhleeoeapjmaa
/- THE CELL 'sum', in the pinned program and in every row, IS THE sha256 OF THE DUMP (.gsa) THAT YtidhleeoeapjmaaProg.lean LOADS. Nothing in Lean hashes anything: it is a label: what it is worth is what the hold of that sum in a sandbox is worth. -/
noncomputable def Try.pinned : Pinned := { name := "ytidhleeoeapjmaa", sum := "1dc9420aea931fa4a316871c3eb3338c1dcff08586e835663bff1af98c69a971", checked := Try.checked }
namespace Rows
def none {H : Type} : Left H := { results := [], args := [] }

/-- 'venduelaw17.ActivityFalls': WHATEVER THE INPUT: true; the input reads as it did. -/
def activityFallsSpec : ChangeSpec := { name := "activityFalls", fn := fun _ => fun
  | [d1, d2] => { results := [.lit (.bool true)], args := [d1, d2] }
  | _ => none }
def activityFallsRow : OpenClaim := { program := "ytidhleeoeapjmaa", sum := "1dc9420aea931fa4a316871c3eb3338c1dcff08586e835663bff1af98c69a971", func := "vendue/venduelaw17.ActivityFalls", spec := "activityFalls", inPlace := ["math/bits.Add64"], unfollowed := true, recurses := true, apart := false }
def ActivityFallsSaid : Prop := activityFallsRow.holds Try.pinned (OpenSpec.ofChange activityFallsSpec)

/-- ITS FALSE NEIGHBOUR: 'it returns false'. Refute it at one input. -/
def activityFallsWrong : ChangeSpec := { name := "activityFalls", fn := fun _ => fun
  | [d1, d2] => { results := [.lit (.bool false)], args := [d1, d2] }
  | _ => none }
def ActivityFallsWrongFalsely : Prop := activityFallsRow.holds Try.pinned (OpenSpec.ofChange activityFallsWrong)

/-- 'venduelaw17.ActivityEnough': WHATEVER THE INPUT: true; the input reads as it did. -/
def activityEnoughSpec : ChangeSpec := { name := "activityEnough", fn := fun _ => fun
  | [d] => { results := [.lit (.bool true)], args := [d] }
  | _ => none }
def activityEnoughRow : OpenClaim := { program := "ytidhleeoeapjmaa", sum := "1dc9420aea931fa4a316871c3eb3338c1dcff08586e835663bff1af98c69a971", func := "vendue/venduelaw17.ActivityEnough", spec := "activityEnough", inPlace := ["math/bits.Add64"], unfollowed := true, recurses := true, apart := false }
def ActivityEnoughSaid : Prop := activityEnoughRow.holds Try.pinned (OpenSpec.ofChange activityEnoughSpec)

/-- ITS FALSE NEIGHBOUR: 'it returns false'. Refute it at one input. -/
def activityEnoughWrong : ChangeSpec := { name := "activityEnough", fn := fun _ => fun
  | [d] => { results := [.lit (.bool false)], args := [d] }
  | _ => none }
def ActivityEnoughWrongFalsely : Prop := activityEnoughRow.holds Try.pinned (OpenSpec.ofChange activityEnoughWrong)

/-- 'venduelaw17.ActivityNeed': WHATEVER THE INPUT: true; the input reads as it did. -/
def activityNeedSpec : ChangeSpec := { name := "activityNeed", fn := fun _ => fun
  | [d] => { results := [.lit (.bool true)], args := [d] }
  | _ => none }
def activityNeedRow : OpenClaim := { program := "ytidhleeoeapjmaa", sum := "1dc9420aea931fa4a316871c3eb3338c1dcff08586e835663bff1af98c69a971", func := "vendue/venduelaw17.ActivityNeed", spec := "activityNeed", inPlace := ["math/bits.Add64"], unfollowed := true, recurses := true, apart := false }
def ActivityNeedSaid : Prop := activityNeedRow.holds Try.pinned (OpenSpec.ofChange activityNeedSpec)

/-- ITS FALSE NEIGHBOUR: 'it returns false'. Refute it at one input. -/
def activityNeedWrong : ChangeSpec := { name := "activityNeed", fn := fun _ => fun
  | [d] => { results := [.lit (.bool false)], args := [d] }
  | _ => none }
def ActivityNeedWrongFalsely : Prop := activityNeedRow.holds Try.pinned (OpenSpec.ofChange activityNeedWrong)

/-- 'venduelaw17.ActivityBuys': WHATEVER THE INPUT: true; the input reads as it did. -/
def activityBuysSpec : ChangeSpec := { name := "activityBuys", fn := fun _ => fun
  | [d1, d2, d3] => { results := [.lit (.bool true)], args := [d1, d2, d3] }
  | _ => none }
def activityBuysRow : OpenClaim := { program := "ytidhleeoeapjmaa", sum := "1dc9420aea931fa4a316871c3eb3338c1dcff08586e835663bff1af98c69a971", func := "vendue/venduelaw17.ActivityBuys", spec := "activityBuys", inPlace := ["math/bits.Add64"], unfollowed := true, recurses := true, apart := false }
def ActivityBuysSaid : Prop := activityBuysRow.holds Try.pinned (OpenSpec.ofChange activityBuysSpec)

/-- ITS FALSE NEIGHBOUR: 'it returns false'. Refute it at one input. -/
def activityBuysWrong : ChangeSpec := { name := "activityBuys", fn := fun _ => fun
  | [d1, d2, d3] => { results := [.lit (.bool false)], args := [d1, d2, d3] }
  | _ => none }
def ActivityBuysWrongFalsely : Prop := activityBuysRow.holds Try.pinned (OpenSpec.ofChange activityBuysWrong)

/-- 'venduelaw17.ActivityRooms': WHATEVER THE INPUT: true; the input reads as it did. -/
def activityRoomsSpec : ChangeSpec := { name := "activityRooms", fn := fun _ => fun
  | [d1, d2] => { results := [.lit (.bool true)], args := [d1, d2] }
  | _ => none }
def activityRoomsRow : OpenClaim := { program := "ytidhleeoeapjmaa", sum := "1dc9420aea931fa4a316871c3eb3338c1dcff08586e835663bff1af98c69a971", func := "vendue/venduelaw17.ActivityRooms", spec := "activityRooms", inPlace := ["math/bits.Add64"], unfollowed := true, recurses := true, apart := false }
def ActivityRoomsSaid : Prop := activityRoomsRow.holds Try.pinned (OpenSpec.ofChange activityRoomsSpec)

/-- ITS FALSE NEIGHBOUR: 'it returns false'. Refute it at one input. -/
def activityRoomsWrong : ChangeSpec := { name := "activityRooms", fn := fun _ => fun
  | [d1, d2] => { results := [.lit (.bool false)], args := [d1, d2] }
  | _ => none }
def ActivityRoomsWrongFalsely : Prop := activityRoomsRow.holds Try.pinned (OpenSpec.ofChange activityRoomsWrong)

/-- 'venduelaw17.ActivityTells': WHATEVER THE INPUT: true; the input reads as it did. -/
def activityTellsSpec : ChangeSpec := { name := "activityTells", fn := fun _ => fun
  | [d1, d2, d3] => { results := [.lit (.bool true)], args := [d1, d2, d3] }
  | _ => none }
def activityTellsRow : OpenClaim := { program := "ytidhleeoeapjmaa", sum := "1dc9420aea931fa4a316871c3eb3338c1dcff08586e835663bff1af98c69a971", func := "vendue/venduelaw17.ActivityTells", spec := "activityTells", inPlace := ["math/bits.Add64"], unfollowed := true, recurses := true, apart := false }
def ActivityTellsSaid : Prop := activityTellsRow.holds Try.pinned (OpenSpec.ofChange activityTellsSpec)

/-- ITS FALSE NEIGHBOUR: 'it returns false'. Refute it at one input. -/
def activityTellsWrong : ChangeSpec := { name := "activityTells", fn := fun _ => fun
  | [d1, d2, d3] => { results := [.lit (.bool false)], args := [d1, d2, d3] }
  | _ => none }
def ActivityTellsWrongFalsely : Prop := activityTellsRow.holds Try.pinned (OpenSpec.ofChange activityTellsWrong)

/- THE SECOND FORM. 'bulk': how many values and letters a reading holds, each counted each time it is reached (what is shared counts as often as it is met; a slice's spare places count too). A statement '..UptoSaid' is the law's where the arguments, and the package variables that the reading takes, are together of bulk at most 1048576: NARROWER than '..Said'. Prove '..Said' where nothing that the law and all that it calls make is longer than what came in: it says more and counts as full. Else prove '..UptoSaid'. A law counts once. -/
mutual
def uptoBulk {H : Type} : DataW H → Nat
  | .lit (.string bytes) => bytes.length + 1
  | .lit _ => 1
  | .nil => 1
  | .ptr d => uptoBulk d + 1
  | .slice elems spare => uptoBulkAll elems + uptoBulkAll spare + 1
  | .agg parts => uptoBulkAll parts + 1
  | .iface _ d => uptoBulk d + 1
  | .map entries => uptoBulkEntries entries + 1
  | .held _ => 1
def uptoBulkAll {H : Type} : List (DataW H) → Nat
  | [] => 0
  | d :: r => uptoBulk d + uptoBulkAll r
def uptoBulkEntries {H : Type} : List (Lit × DataW H) → Nat
  | [] => 0
  | x :: r => uptoBulkEntry x + uptoBulkEntries r
def uptoBulkEntry {H : Type} : Lit × DataW H → Nat
  | (.string bytes, d) => bytes.length + uptoBulk d + 1
  | (_, d) => uptoBulk d + 1
 end
def uptoSmall : (H : Type) → List (DataW H) → Bool := fun _ ds => decide (uptoBulkAll ds ≤ 1048576)
def OpenSpec.upto (s : _root_.Go.ChangeSpec) : _root_.Go.OpenSpec := { _root_.Go.OpenSpec.ofChange s with cond := some uptoSmall }

/-- 'venduelaw17.ActivityFalls', WHERE WHAT IT READS IS OF BULK AT MOST 1048576: true; the input reads as it did. -/
def activityFallsUptoRow : OpenClaim := { program := "ytidhleeoeapjmaa", sum := "1dc9420aea931fa4a316871c3eb3338c1dcff08586e835663bff1af98c69a971", func := "vendue/venduelaw17.ActivityFalls", spec := "activityFalls", inPlace := ["math/bits.Add64"], unfollowed := true, recurses := true, apart := false, narrowed := true }
def ActivityFallsUptoSaid : Prop := activityFallsUptoRow.holds Try.pinned (OpenSpec.upto activityFallsSpec)

/-- 'venduelaw17.ActivityEnough', WHERE WHAT IT READS IS OF BULK AT MOST 1048576: true; the input reads as it did. -/
def activityEnoughUptoRow : OpenClaim := { program := "ytidhleeoeapjmaa", sum := "1dc9420aea931fa4a316871c3eb3338c1dcff08586e835663bff1af98c69a971", func := "vendue/venduelaw17.ActivityEnough", spec := "activityEnough", inPlace := ["math/bits.Add64"], unfollowed := true, recurses := true, apart := false, narrowed := true }
def ActivityEnoughUptoSaid : Prop := activityEnoughUptoRow.holds Try.pinned (OpenSpec.upto activityEnoughSpec)

/-- 'venduelaw17.ActivityNeed', WHERE WHAT IT READS IS OF BULK AT MOST 1048576: true; the input reads as it did. -/
def activityNeedUptoRow : OpenClaim := { program := "ytidhleeoeapjmaa", sum := "1dc9420aea931fa4a316871c3eb3338c1dcff08586e835663bff1af98c69a971", func := "vendue/venduelaw17.ActivityNeed", spec := "activityNeed", inPlace := ["math/bits.Add64"], unfollowed := true, recurses := true, apart := false, narrowed := true }
def ActivityNeedUptoSaid : Prop := activityNeedUptoRow.holds Try.pinned (OpenSpec.upto activityNeedSpec)

/-- 'venduelaw17.ActivityBuys', WHERE WHAT IT READS IS OF BULK AT MOST 1048576: true; the input reads as it did. -/
def activityBuysUptoRow : OpenClaim := { program := "ytidhleeoeapjmaa", sum := "1dc9420aea931fa4a316871c3eb3338c1dcff08586e835663bff1af98c69a971", func := "vendue/venduelaw17.ActivityBuys", spec := "activityBuys", inPlace := ["math/bits.Add64"], unfollowed := true, recurses := true, apart := false, narrowed := true }
def ActivityBuysUptoSaid : Prop := activityBuysUptoRow.holds Try.pinned (OpenSpec.upto activityBuysSpec)

/-- 'venduelaw17.ActivityRooms', WHERE WHAT IT READS IS OF BULK AT MOST 1048576: true; the input reads as it did. -/
def activityRoomsUptoRow : OpenClaim := { program := "ytidhleeoeapjmaa", sum := "1dc9420aea931fa4a316871c3eb3338c1dcff08586e835663bff1af98c69a971", func := "vendue/venduelaw17.ActivityRooms", spec := "activityRooms", inPlace := ["math/bits.Add64"], unfollowed := true, recurses := true, apart := false, narrowed := true }
def ActivityRoomsUptoSaid : Prop := activityRoomsUptoRow.holds Try.pinned (OpenSpec.upto activityRoomsSpec)

/-- 'venduelaw17.ActivityTells', WHERE WHAT IT READS IS OF BULK AT MOST 1048576: true; the input reads as it did. -/
def activityTellsUptoRow : OpenClaim := { program := "ytidhleeoeapjmaa", sum := "1dc9420aea931fa4a316871c3eb3338c1dcff08586e835663bff1af98c69a971", func := "vendue/venduelaw17.ActivityTells", spec := "activityTells", inPlace := ["math/bits.Add64"], unfollowed := true, recurses := true, apart := false, narrowed := true }
def ActivityTellsUptoSaid : Prop := activityTellsUptoRow.holds Try.pinned (OpenSpec.upto activityTellsSpec)

end Rows
end Go.Proofs.Ytidhleeoeapjmaa
