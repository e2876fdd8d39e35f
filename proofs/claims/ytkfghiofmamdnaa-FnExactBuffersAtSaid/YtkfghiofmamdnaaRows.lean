/-
  No cell of these rows narrows 'for every input' (looked for: loops, veiled, ifaces, maps, wideKeys, modest, calm, conditions, laid).
  DERIVED. THE GIVEN ROWS OF THIS SEAT. 13 by the template 'for every input the law returns true; each argument reads behind the call as it read before'; 0 by the template 'total and deterministic' (their statements: YtkfghiofmamdnaaTotals.lean).
  GIVEN WITH THE SEED: the statements are not yours to turn. If you find one false, say at which input.
  Laid BY PROGRAM, IN A SANDBOX (cutbox-rows.mjs): the forced cells as the released guide's own fill.sh prints them over the translation 7a984d123e104946… (all of the seat's roots in one cut). By AI agents, Wed Nov 11 2026. No macro, syntax, notation, axiom, sorry.
-/
import Derived.Test.YtkfghiofmamdnaaChecked
import GoSem.Claim
import GoSem.ClaimJoined
import GoSem.ClaimMapViews
import Derived.JoinedTies
import Derived.KernelRfl
namespace Go.Proofs.Ytkfghiofmamdnaa
/- THE CELL 'sum', in the pinned program and in every row, IS THE sha256 OF THE DUMP (.gsa) THAT YtkfghiofmamdnaaProg.lean LOADS. Nothing in Lean hashes anything: it is a label: what it is worth is what the hold of that sum in a sandbox is worth. -/
noncomputable def Try.pinned : Pinned := { name := "ytkfghiofmamdnaa", sum := "7a984d123e104946765c83c91c616295b1dce30940ea389e35d081c2ebd591af", checked := Try.checked }
namespace Rows
def none {H : Type} : Left H := { results := [], args := [] }

/-- 'laws.FnExactIdleTicks': WHATEVER THE INPUT: true; the input reads as it did. -/
def fnExactIdleTicksSpec : ChangeSpec := { name := "fnExactIdleTicks", fn := fun _ => fun
  | [d1, d2, d3, d4] => { results := [.lit (.bool true)], args := [d1, d2, d3, d4] }
  | _ => none }
def fnExactIdleTicksRow : OpenClaim := { program := "ytkfghiofmamdnaa", sum := "7a984d123e104946765c83c91c616295b1dce30940ea389e35d081c2ebd591af", func := "loop.example/g01176/laws.FnExactIdleTicks", spec := "fnExactIdleTicks", unfollowed := true, recurses := true, apart := false }
def FnExactIdleTicksSaid : Prop := fnExactIdleTicksRow.holds Try.pinned (OpenSpec.ofChange fnExactIdleTicksSpec)

/-- ITS FALSE NEIGHBOUR: 'it returns false'. Refute it at one input. -/
def fnExactIdleTicksWrong : ChangeSpec := { name := "fnExactIdleTicks", fn := fun _ => fun
  | [d1, d2, d3, d4] => { results := [.lit (.bool false)], args := [d1, d2, d3, d4] }
  | _ => none }
def FnExactIdleTicksWrongFalsely : Prop := fnExactIdleTicksRow.holds Try.pinned (OpenSpec.ofChange fnExactIdleTicksWrong)

/-- 'laws.FnExactBufferPeak': WHATEVER THE INPUT: true; the input reads as it did. -/
def fnExactBufferPeakSpec : ChangeSpec := { name := "fnExactBufferPeak", fn := fun _ => fun
  | [d1, d2] => { results := [.lit (.bool true)], args := [d1, d2] }
  | _ => none }
def fnExactBufferPeakRow : OpenClaim := { program := "ytkfghiofmamdnaa", sum := "7a984d123e104946765c83c91c616295b1dce30940ea389e35d081c2ebd591af", func := "loop.example/g01176/laws.FnExactBufferPeak", spec := "fnExactBufferPeak", unfollowed := true, recurses := true, apart := false }
def FnExactBufferPeakSaid : Prop := fnExactBufferPeakRow.holds Try.pinned (OpenSpec.ofChange fnExactBufferPeakSpec)

/-- ITS FALSE NEIGHBOUR: 'it returns false'. Refute it at one input. -/
def fnExactBufferPeakWrong : ChangeSpec := { name := "fnExactBufferPeak", fn := fun _ => fun
  | [d1, d2] => { results := [.lit (.bool false)], args := [d1, d2] }
  | _ => none }
def FnExactBufferPeakWrongFalsely : Prop := fnExactBufferPeakRow.holds Try.pinned (OpenSpec.ofChange fnExactBufferPeakWrong)

/-- 'laws.FnExactCellsUnderway': WHATEVER THE INPUT: true; the input reads as it did. -/
def fnExactCellsUnderwaySpec : ChangeSpec := { name := "fnExactCellsUnderway", fn := fun _ => fun
  | [d1, d2, d3] => { results := [.lit (.bool true)], args := [d1, d2, d3] }
  | _ => none }
def fnExactCellsUnderwayRow : OpenClaim := { program := "ytkfghiofmamdnaa", sum := "7a984d123e104946765c83c91c616295b1dce30940ea389e35d081c2ebd591af", func := "loop.example/g01176/laws.FnExactCellsUnderway", spec := "fnExactCellsUnderway", unfollowed := true, recurses := true, apart := false }
def FnExactCellsUnderwaySaid : Prop := fnExactCellsUnderwayRow.holds Try.pinned (OpenSpec.ofChange fnExactCellsUnderwaySpec)

/-- ITS FALSE NEIGHBOUR: 'it returns false'. Refute it at one input. -/
def fnExactCellsUnderwayWrong : ChangeSpec := { name := "fnExactCellsUnderway", fn := fun _ => fun
  | [d1, d2, d3] => { results := [.lit (.bool false)], args := [d1, d2, d3] }
  | _ => none }
def FnExactCellsUnderwayWrongFalsely : Prop := fnExactCellsUnderwayRow.holds Try.pinned (OpenSpec.ofChange fnExactCellsUnderwayWrong)

/-- 'laws.FnExactLongestInsertWait': WHATEVER THE INPUT: true; the input reads as it did. -/
def fnExactLongestInsertWaitSpec : ChangeSpec := { name := "fnExactLongestInsertWait", fn := fun _ => fun
  | [d1, d2] => { results := [.lit (.bool true)], args := [d1, d2] }
  | _ => none }
def fnExactLongestInsertWaitRow : OpenClaim := { program := "ytkfghiofmamdnaa", sum := "7a984d123e104946765c83c91c616295b1dce30940ea389e35d081c2ebd591af", func := "loop.example/g01176/laws.FnExactLongestInsertWait", spec := "fnExactLongestInsertWait", unfollowed := true, recurses := true, apart := false }
def FnExactLongestInsertWaitSaid : Prop := fnExactLongestInsertWaitRow.holds Try.pinned (OpenSpec.ofChange fnExactLongestInsertWaitSpec)

/-- ITS FALSE NEIGHBOUR: 'it returns false'. Refute it at one input. -/
def fnExactLongestInsertWaitWrong : ChangeSpec := { name := "fnExactLongestInsertWait", fn := fun _ => fun
  | [d1, d2] => { results := [.lit (.bool false)], args := [d1, d2] }
  | _ => none }
def FnExactLongestInsertWaitWrongFalsely : Prop := fnExactLongestInsertWaitRow.holds Try.pinned (OpenSpec.ofChange fnExactLongestInsertWaitWrong)

/-- 'laws.FnExactLastInsertRead': WHATEVER THE INPUT: true; the input reads as it did. -/
def fnExactLastInsertReadSpec : ChangeSpec := { name := "fnExactLastInsertRead", fn := fun _ => fun
  | [d1, d2] => { results := [.lit (.bool true)], args := [d1, d2] }
  | _ => none }
def fnExactLastInsertReadRow : OpenClaim := { program := "ytkfghiofmamdnaa", sum := "7a984d123e104946765c83c91c616295b1dce30940ea389e35d081c2ebd591af", func := "loop.example/g01176/laws.FnExactLastInsertRead", spec := "fnExactLastInsertRead", unfollowed := true, recurses := true, apart := false }
def FnExactLastInsertReadSaid : Prop := fnExactLastInsertReadRow.holds Try.pinned (OpenSpec.ofChange fnExactLastInsertReadSpec)

/-- ITS FALSE NEIGHBOUR: 'it returns false'. Refute it at one input. -/
def fnExactLastInsertReadWrong : ChangeSpec := { name := "fnExactLastInsertRead", fn := fun _ => fun
  | [d1, d2] => { results := [.lit (.bool false)], args := [d1, d2] }
  | _ => none }
def FnExactLastInsertReadWrongFalsely : Prop := fnExactLastInsertReadRow.holds Try.pinned (OpenSpec.ofChange fnExactLastInsertReadWrong)

/-- 'laws.FnExactLinksAt': WHATEVER THE INPUT: true; the input reads as it did. -/
def fnExactLinksAtSpec : ChangeSpec := { name := "fnExactLinksAt", fn := fun _ => fun
  | [d1, d2, d3] => { results := [.lit (.bool true)], args := [d1, d2, d3] }
  | _ => none }
def fnExactLinksAtRow : OpenClaim := { program := "ytkfghiofmamdnaa", sum := "7a984d123e104946765c83c91c616295b1dce30940ea389e35d081c2ebd591af", func := "loop.example/g01176/laws.FnExactLinksAt", spec := "fnExactLinksAt", unfollowed := true, recurses := true, apart := false }
def FnExactLinksAtSaid : Prop := fnExactLinksAtRow.holds Try.pinned (OpenSpec.ofChange fnExactLinksAtSpec)

/-- ITS FALSE NEIGHBOUR: 'it returns false'. Refute it at one input. -/
def fnExactLinksAtWrong : ChangeSpec := { name := "fnExactLinksAt", fn := fun _ => fun
  | [d1, d2, d3] => { results := [.lit (.bool false)], args := [d1, d2, d3] }
  | _ => none }
def FnExactLinksAtWrongFalsely : Prop := fnExactLinksAtRow.holds Try.pinned (OpenSpec.ofChange fnExactLinksAtWrong)

/-- 'laws.FnExactInsertRead': WHATEVER THE INPUT: true; the input reads as it did. -/
def fnExactInsertReadSpec : ChangeSpec := { name := "fnExactInsertRead", fn := fun _ => fun
  | [d1, d2] => { results := [.lit (.bool true)], args := [d1, d2] }
  | _ => none }
def fnExactInsertReadRow : OpenClaim := { program := "ytkfghiofmamdnaa", sum := "7a984d123e104946765c83c91c616295b1dce30940ea389e35d081c2ebd591af", func := "loop.example/g01176/laws.FnExactInsertRead", spec := "fnExactInsertRead", unfollowed := true, recurses := true, apart := false }
def FnExactInsertReadSaid : Prop := fnExactInsertReadRow.holds Try.pinned (OpenSpec.ofChange fnExactInsertReadSpec)

/-- ITS FALSE NEIGHBOUR: 'it returns false'. Refute it at one input. -/
def fnExactInsertReadWrong : ChangeSpec := { name := "fnExactInsertRead", fn := fun _ => fun
  | [d1, d2] => { results := [.lit (.bool false)], args := [d1, d2] }
  | _ => none }
def FnExactInsertReadWrongFalsely : Prop := fnExactInsertReadRow.holds Try.pinned (OpenSpec.ofChange fnExactInsertReadWrong)

/-- 'laws.FnExactInsertedAt': WHATEVER THE INPUT: true; the input reads as it did. -/
def fnExactInsertedAtSpec : ChangeSpec := { name := "fnExactInsertedAt", fn := fun _ => fun
  | [d1, d2] => { results := [.lit (.bool true)], args := [d1, d2] }
  | _ => none }
def fnExactInsertedAtRow : OpenClaim := { program := "ytkfghiofmamdnaa", sum := "7a984d123e104946765c83c91c616295b1dce30940ea389e35d081c2ebd591af", func := "loop.example/g01176/laws.FnExactInsertedAt", spec := "fnExactInsertedAt", unfollowed := true, recurses := true, apart := false }
def FnExactInsertedAtSaid : Prop := fnExactInsertedAtRow.holds Try.pinned (OpenSpec.ofChange fnExactInsertedAtSpec)

/-- ITS FALSE NEIGHBOUR: 'it returns false'. Refute it at one input. -/
def fnExactInsertedAtWrong : ChangeSpec := { name := "fnExactInsertedAt", fn := fun _ => fun
  | [d1, d2] => { results := [.lit (.bool false)], args := [d1, d2] }
  | _ => none }
def FnExactInsertedAtWrongFalsely : Prop := fnExactInsertedAtRow.holds Try.pinned (OpenSpec.ofChange fnExactInsertedAtWrong)

/-- 'laws.FnExactDelaysOfCells': WHATEVER THE INPUT: true; the input reads as it did. -/
def fnExactDelaysOfCellsSpec : ChangeSpec := { name := "fnExactDelaysOfCells", fn := fun _ => fun
  | [d1, d2] => { results := [.lit (.bool true)], args := [d1, d2] }
  | _ => none }
def fnExactDelaysOfCellsRow : OpenClaim := { program := "ytkfghiofmamdnaa", sum := "7a984d123e104946765c83c91c616295b1dce30940ea389e35d081c2ebd591af", func := "loop.example/g01176/laws.FnExactDelaysOfCells", spec := "fnExactDelaysOfCells", unfollowed := true, recurses := true, apart := false }
def FnExactDelaysOfCellsSaid : Prop := fnExactDelaysOfCellsRow.holds Try.pinned (OpenSpec.ofChange fnExactDelaysOfCellsSpec)

/-- ITS FALSE NEIGHBOUR: 'it returns false'. Refute it at one input. -/
def fnExactDelaysOfCellsWrong : ChangeSpec := { name := "fnExactDelaysOfCells", fn := fun _ => fun
  | [d1, d2] => { results := [.lit (.bool false)], args := [d1, d2] }
  | _ => none }
def FnExactDelaysOfCellsWrongFalsely : Prop := fnExactDelaysOfCellsRow.holds Try.pinned (OpenSpec.ofChange fnExactDelaysOfCellsWrong)

/-- 'laws.FnExactBuffersAt': WHATEVER THE INPUT: true; the input reads as it did. -/
def fnExactBuffersAtSpec : ChangeSpec := { name := "fnExactBuffersAt", fn := fun _ => fun
  | [d1, d2, d3] => { results := [.lit (.bool true)], args := [d1, d2, d3] }
  | _ => none }
def fnExactBuffersAtRow : OpenClaim := { program := "ytkfghiofmamdnaa", sum := "7a984d123e104946765c83c91c616295b1dce30940ea389e35d081c2ebd591af", func := "loop.example/g01176/laws.FnExactBuffersAt", spec := "fnExactBuffersAt", unfollowed := true, recurses := true, apart := false }
def FnExactBuffersAtSaid : Prop := fnExactBuffersAtRow.holds Try.pinned (OpenSpec.ofChange fnExactBuffersAtSpec)

/-- ITS FALSE NEIGHBOUR: 'it returns false'. Refute it at one input. -/
def fnExactBuffersAtWrong : ChangeSpec := { name := "fnExactBuffersAt", fn := fun _ => fun
  | [d1, d2, d3] => { results := [.lit (.bool false)], args := [d1, d2, d3] }
  | _ => none }
def FnExactBuffersAtWrongFalsely : Prop := fnExactBuffersAtRow.holds Try.pinned (OpenSpec.ofChange fnExactBuffersAtWrong)

/-- 'laws.FnExactTurnInserted': WHATEVER THE INPUT: true; the input reads as it did. -/
def fnExactTurnInsertedSpec : ChangeSpec := { name := "fnExactTurnInserted", fn := fun _ => fun
  | [d1, d2, d3] => { results := [.lit (.bool true)], args := [d1, d2, d3] }
  | _ => none }
def fnExactTurnInsertedRow : OpenClaim := { program := "ytkfghiofmamdnaa", sum := "7a984d123e104946765c83c91c616295b1dce30940ea389e35d081c2ebd591af", func := "loop.example/g01176/laws.FnExactTurnInserted", spec := "fnExactTurnInserted", unfollowed := true, recurses := true, apart := false }
def FnExactTurnInsertedSaid : Prop := fnExactTurnInsertedRow.holds Try.pinned (OpenSpec.ofChange fnExactTurnInsertedSpec)

/-- ITS FALSE NEIGHBOUR: 'it returns false'. Refute it at one input. -/
def fnExactTurnInsertedWrong : ChangeSpec := { name := "fnExactTurnInserted", fn := fun _ => fun
  | [d1, d2, d3] => { results := [.lit (.bool false)], args := [d1, d2, d3] }
  | _ => none }
def FnExactTurnInsertedWrongFalsely : Prop := fnExactTurnInsertedRow.holds Try.pinned (OpenSpec.ofChange fnExactTurnInsertedWrong)

/-- 'laws.FnCellsUnderway': WHATEVER THE INPUT: true; the input reads as it did. -/
def fnCellsUnderwaySpec : ChangeSpec := { name := "fnCellsUnderway", fn := fun _ => fun
  | [d1, d2] => { results := [.lit (.bool true)], args := [d1, d2] }
  | _ => none }
def fnCellsUnderwayRow : OpenClaim := { program := "ytkfghiofmamdnaa", sum := "7a984d123e104946765c83c91c616295b1dce30940ea389e35d081c2ebd591af", func := "loop.example/g01176/laws.FnCellsUnderway", spec := "fnCellsUnderway", unfollowed := true, recurses := true, apart := false }
def FnCellsUnderwaySaid : Prop := fnCellsUnderwayRow.holds Try.pinned (OpenSpec.ofChange fnCellsUnderwaySpec)

/-- ITS FALSE NEIGHBOUR: 'it returns false'. Refute it at one input. -/
def fnCellsUnderwayWrong : ChangeSpec := { name := "fnCellsUnderway", fn := fun _ => fun
  | [d1, d2] => { results := [.lit (.bool false)], args := [d1, d2] }
  | _ => none }
def FnCellsUnderwayWrongFalsely : Prop := fnCellsUnderwayRow.holds Try.pinned (OpenSpec.ofChange fnCellsUnderwayWrong)

/-- 'laws.FnInsertedArrive': WHATEVER THE INPUT: true; the input reads as it did. -/
def fnInsertedArriveSpec : ChangeSpec := { name := "fnInsertedArrive", fn := fun _ => fun
  | [d1, d2] => { results := [.lit (.bool true)], args := [d1, d2] }
  | _ => none }
def fnInsertedArriveRow : OpenClaim := { program := "ytkfghiofmamdnaa", sum := "7a984d123e104946765c83c91c616295b1dce30940ea389e35d081c2ebd591af", func := "loop.example/g01176/laws.FnInsertedArrive", spec := "fnInsertedArrive", unfollowed := true, recurses := true, apart := false }
def FnInsertedArriveSaid : Prop := fnInsertedArriveRow.holds Try.pinned (OpenSpec.ofChange fnInsertedArriveSpec)

/-- ITS FALSE NEIGHBOUR: 'it returns false'. Refute it at one input. -/
def fnInsertedArriveWrong : ChangeSpec := { name := "fnInsertedArrive", fn := fun _ => fun
  | [d1, d2] => { results := [.lit (.bool false)], args := [d1, d2] }
  | _ => none }
def FnInsertedArriveWrongFalsely : Prop := fnInsertedArriveRow.holds Try.pinned (OpenSpec.ofChange fnInsertedArriveWrong)

/- THE SECOND FORM. 'bulk': how many values and letters a reading holds, each counted each time it is reached (what is shared counts as often as it is met; a slice's spare places count too). A statement '..UptoSaid' is the law's where the arguments, and the package variables that the reading takes, are together of bulk at most 1048576: NARROWER than '..Said'. Prove '..Said' where nothing that the law and all that it calls make is longer than what came in: it says more and counts as full. Else prove '..UptoSaid'. A law counts once. -/
mutual
def uptoBulk {H : Type} : DataW H → Nat
  | .lit (.string bytes) => bytes.length + 1
  | .lit _ => 1
  | .nil => 1
  | .ptr d => uptoBulk d + 1
  | .slice elems spare => uptoBulkAll elems + uptoBulkAll spare + 1
  | .agg parts => uptoBulkAll parts + 1
  | .iface _ d => uptoBulk d + 1
  | .map entries => uptoBulkEntries entries + 1
  | .held _ => 1
def uptoBulkAll {H : Type} : List (DataW H) → Nat
  | [] => 0
  | d :: r => uptoBulk d + uptoBulkAll r
def uptoBulkEntries {H : Type} : List (Lit × DataW H) → Nat
  | [] => 0
  | x :: r => uptoBulkEntry x + uptoBulkEntries r
def uptoBulkEntry {H : Type} : Lit × DataW H → Nat
  | (.string bytes, d) => bytes.length + uptoBulk d + 1
  | (_, d) => uptoBulk d + 1
 end
def uptoSmall : (H : Type) → List (DataW H) → Bool := fun _ ds => decide (uptoBulkAll ds ≤ 1048576)
def OpenSpec.upto (s : _root_.Go.ChangeSpec) : _root_.Go.OpenSpec := { _root_.Go.OpenSpec.ofChange s with cond := some uptoSmall }

/-- 'laws.FnExactIdleTicks', WHERE WHAT IT READS IS OF BULK AT MOST 1048576: true; the input reads as it did. -/
def fnExactIdleTicksUptoRow : OpenClaim := { program := "ytkfghiofmamdnaa", sum := "7a984d123e104946765c83c91c616295b1dce30940ea389e35d081c2ebd591af", func := "loop.example/g01176/laws.FnExactIdleTicks", spec := "fnExactIdleTicks", unfollowed := true, recurses := true, apart := false, narrowed := true }
def FnExactIdleTicksUptoSaid : Prop := fnExactIdleTicksUptoRow.holds Try.pinned (OpenSpec.upto fnExactIdleTicksSpec)

/-- 'laws.FnExactBufferPeak', WHERE WHAT IT READS IS OF BULK AT MOST 1048576: true; the input reads as it did. -/
def fnExactBufferPeakUptoRow : OpenClaim := { program := "ytkfghiofmamdnaa", sum := "7a984d123e104946765c83c91c616295b1dce30940ea389e35d081c2ebd591af", func := "loop.example/g01176/laws.FnExactBufferPeak", spec := "fnExactBufferPeak", unfollowed := true, recurses := true, apart := false, narrowed := true }
def FnExactBufferPeakUptoSaid : Prop := fnExactBufferPeakUptoRow.holds Try.pinned (OpenSpec.upto fnExactBufferPeakSpec)

/-- 'laws.FnExactCellsUnderway', WHERE WHAT IT READS IS OF BULK AT MOST 1048576: true; the input reads as it did. -/
def fnExactCellsUnderwayUptoRow : OpenClaim := { program := "ytkfghiofmamdnaa", sum := "7a984d123e104946765c83c91c616295b1dce30940ea389e35d081c2ebd591af", func := "loop.example/g01176/laws.FnExactCellsUnderway", spec := "fnExactCellsUnderway", unfollowed := true, recurses := true, apart := false, narrowed := true }
def FnExactCellsUnderwayUptoSaid : Prop := fnExactCellsUnderwayUptoRow.holds Try.pinned (OpenSpec.upto fnExactCellsUnderwaySpec)

/-- 'laws.FnExactLongestInsertWait', WHERE WHAT IT READS IS OF BULK AT MOST 1048576: true; the input reads as it did. -/
def fnExactLongestInsertWaitUptoRow : OpenClaim := { program := "ytkfghiofmamdnaa", sum := "7a984d123e104946765c83c91c616295b1dce30940ea389e35d081c2ebd591af", func := "loop.example/g01176/laws.FnExactLongestInsertWait", spec := "fnExactLongestInsertWait", unfollowed := true, recurses := true, apart := false, narrowed := true }
def FnExactLongestInsertWaitUptoSaid : Prop := fnExactLongestInsertWaitUptoRow.holds Try.pinned (OpenSpec.upto fnExactLongestInsertWaitSpec)

/-- 'laws.FnExactLastInsertRead', WHERE WHAT IT READS IS OF BULK AT MOST 1048576: true; the input reads as it did. -/
def fnExactLastInsertReadUptoRow : OpenClaim := { program := "ytkfghiofmamdnaa", sum := "7a984d123e104946765c83c91c616295b1dce30940ea389e35d081c2ebd591af", func := "loop.example/g01176/laws.FnExactLastInsertRead", spec := "fnExactLastInsertRead", unfollowed := true, recurses := true, apart := false, narrowed := true }
def FnExactLastInsertReadUptoSaid : Prop := fnExactLastInsertReadUptoRow.holds Try.pinned (OpenSpec.upto fnExactLastInsertReadSpec)

/-- 'laws.FnExactLinksAt', WHERE WHAT IT READS IS OF BULK AT MOST 1048576: true; the input reads as it did. -/
def fnExactLinksAtUptoRow : OpenClaim := { program := "ytkfghiofmamdnaa", sum := "7a984d123e104946765c83c91c616295b1dce30940ea389e35d081c2ebd591af", func := "loop.example/g01176/laws.FnExactLinksAt", spec := "fnExactLinksAt", unfollowed := true, recurses := true, apart := false, narrowed := true }
def FnExactLinksAtUptoSaid : Prop := fnExactLinksAtUptoRow.holds Try.pinned (OpenSpec.upto fnExactLinksAtSpec)

/-- 'laws.FnExactInsertRead', WHERE WHAT IT READS IS OF BULK AT MOST 1048576: true; the input reads as it did. -/
def fnExactInsertReadUptoRow : OpenClaim := { program := "ytkfghiofmamdnaa", sum := "7a984d123e104946765c83c91c616295b1dce30940ea389e35d081c2ebd591af", func := "loop.example/g01176/laws.FnExactInsertRead", spec := "fnExactInsertRead", unfollowed := true, recurses := true, apart := false, narrowed := true }
def FnExactInsertReadUptoSaid : Prop := fnExactInsertReadUptoRow.holds Try.pinned (OpenSpec.upto fnExactInsertReadSpec)

/-- 'laws.FnExactInsertedAt', WHERE WHAT IT READS IS OF BULK AT MOST 1048576: true; the input reads as it did. -/
def fnExactInsertedAtUptoRow : OpenClaim := { program := "ytkfghiofmamdnaa", sum := "7a984d123e104946765c83c91c616295b1dce30940ea389e35d081c2ebd591af", func := "loop.example/g01176/laws.FnExactInsertedAt", spec := "fnExactInsertedAt", unfollowed := true, recurses := true, apart := false, narrowed := true }
def FnExactInsertedAtUptoSaid : Prop := fnExactInsertedAtUptoRow.holds Try.pinned (OpenSpec.upto fnExactInsertedAtSpec)

/-- 'laws.FnExactDelaysOfCells', WHERE WHAT IT READS IS OF BULK AT MOST 1048576: true; the input reads as it did. -/
def fnExactDelaysOfCellsUptoRow : OpenClaim := { program := "ytkfghiofmamdnaa", sum := "7a984d123e104946765c83c91c616295b1dce30940ea389e35d081c2ebd591af", func := "loop.example/g01176/laws.FnExactDelaysOfCells", spec := "fnExactDelaysOfCells", unfollowed := true, recurses := true, apart := false, narrowed := true }
def FnExactDelaysOfCellsUptoSaid : Prop := fnExactDelaysOfCellsUptoRow.holds Try.pinned (OpenSpec.upto fnExactDelaysOfCellsSpec)

/-- 'laws.FnExactBuffersAt', WHERE WHAT IT READS IS OF BULK AT MOST 1048576: true; the input reads as it did. -/
def fnExactBuffersAtUptoRow : OpenClaim := { program := "ytkfghiofmamdnaa", sum := "7a984d123e104946765c83c91c616295b1dce30940ea389e35d081c2ebd591af", func := "loop.example/g01176/laws.FnExactBuffersAt", spec := "fnExactBuffersAt", unfollowed := true, recurses := true, apart := false, narrowed := true }
def FnExactBuffersAtUptoSaid : Prop := fnExactBuffersAtUptoRow.holds Try.pinned (OpenSpec.upto fnExactBuffersAtSpec)

/-- 'laws.FnExactTurnInserted', WHERE WHAT IT READS IS OF BULK AT MOST 1048576: true; the input reads as it did. -/
def fnExactTurnInsertedUptoRow : OpenClaim := { program := "ytkfghiofmamdnaa", sum := "7a984d123e104946765c83c91c616295b1dce30940ea389e35d081c2ebd591af", func := "loop.example/g01176/laws.FnExactTurnInserted", spec := "fnExactTurnInserted", unfollowed := true, recurses := true, apart := false, narrowed := true }
def FnExactTurnInsertedUptoSaid : Prop := fnExactTurnInsertedUptoRow.holds Try.pinned (OpenSpec.upto fnExactTurnInsertedSpec)

/-- 'laws.FnCellsUnderway', WHERE WHAT IT READS IS OF BULK AT MOST 1048576: true; the input reads as it did. -/
def fnCellsUnderwayUptoRow : OpenClaim := { program := "ytkfghiofmamdnaa", sum := "7a984d123e104946765c83c91c616295b1dce30940ea389e35d081c2ebd591af", func := "loop.example/g01176/laws.FnCellsUnderway", spec := "fnCellsUnderway", unfollowed := true, recurses := true, apart := false, narrowed := true }
def FnCellsUnderwayUptoSaid : Prop := fnCellsUnderwayUptoRow.holds Try.pinned (OpenSpec.upto fnCellsUnderwaySpec)

/-- 'laws.FnInsertedArrive', WHERE WHAT IT READS IS OF BULK AT MOST 1048576: true; the input reads as it did. -/
def fnInsertedArriveUptoRow : OpenClaim := { program := "ytkfghiofmamdnaa", sum := "7a984d123e104946765c83c91c616295b1dce30940ea389e35d081c2ebd591af", func := "loop.example/g01176/laws.FnInsertedArrive", spec := "fnInsertedArrive", unfollowed := true, recurses := true, apart := false, narrowed := true }
def FnInsertedArriveUptoSaid : Prop := fnInsertedArriveUptoRow.holds Try.pinned (OpenSpec.upto fnInsertedArriveSpec)

end Rows
end Go.Proofs.Ytkfghiofmamdnaa
