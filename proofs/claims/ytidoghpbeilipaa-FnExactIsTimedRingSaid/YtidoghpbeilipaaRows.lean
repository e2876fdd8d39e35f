/-
  No cell of these rows narrows 'for every input' (looked for: loops, veiled, ifaces, maps, wideKeys, modest, calm, conditions, laid).
  DERIVED. THE GIVEN ROWS OF THIS SEAT. 6 by the template 'for every input the law returns true; each argument reads behind the call as it read before'; 0 by the template 'total and deterministic' (their statements: YtidoghpbeilipaaTotals.lean).
  GIVEN WITH THE SEED: the statements are not yours to turn. If you find one false, say at which input.
  Laid BY PROGRAM, IN A SANDBOX (cutbox-rows.mjs): the forced cells as the released guide's own fill.sh prints them over the translation 256f644a8deca1b6… (all of the seat's roots in one cut). By AI agents, Wed Nov 11 2026. No macro, syntax, notation, axiom, sorry.
-/
import Derived.Test.YtidoghpbeilipaaChecked
import GoSem.Claim
import GoSem.ClaimJoined
import GoSem.ClaimMapViews
import Derived.JoinedTies
import Derived.KernelRfl
namespace Go.Proofs.Ytidoghpbeilipaa
/- THE CELL 'sum', in the pinned program and in every row, IS THE sha256 OF THE DUMP (.gsa) THAT YtidoghpbeilipaaProg.lean LOADS. Nothing in Lean hashes anything: it is a label: what it is worth is what the hold of that sum in a sandbox is worth. -/
noncomputable def Try.pinned : Pinned := { name := "ytidoghpbeilipaa", sum := "256f644a8deca1b6de89e6368b87b636f04ca921d5a026dbb18332b2319e5387", checked := Try.checked }
namespace Rows
def none {H : Type} : Left H := { results := [], args := [] }

/-- 'laws.FnExactBacklogBound': WHATEVER THE INPUT: true; the input reads as it did. -/
def fnExactBacklogBoundSpec : ChangeSpec := { name := "fnExactBacklogBound", fn := fun _ => fun
  | [d1, d2] => { results := [.lit (.bool true)], args := [d1, d2] }
  | _ => none }
def fnExactBacklogBoundRow : OpenClaim := { program := "ytidoghpbeilipaa", sum := "256f644a8deca1b6de89e6368b87b636f04ca921d5a026dbb18332b2319e5387", func := "loop.example/g01176/laws.FnExactBacklogBound", spec := "fnExactBacklogBound", apart := false }
def FnExactBacklogBoundSaid : Prop := fnExactBacklogBoundRow.holds Try.pinned (OpenSpec.ofChange fnExactBacklogBoundSpec)

/-- ITS FALSE NEIGHBOUR: 'it returns false'. Refute it at one input. -/
def fnExactBacklogBoundWrong : ChangeSpec := { name := "fnExactBacklogBound", fn := fun _ => fun
  | [d1, d2] => { results := [.lit (.bool false)], args := [d1, d2] }
  | _ => none }
def FnExactBacklogBoundWrongFalsely : Prop := fnExactBacklogBoundRow.holds Try.pinned (OpenSpec.ofChange fnExactBacklogBoundWrong)

/-- 'laws.FnExactDelayBound': WHATEVER THE INPUT: true; the input reads as it did. -/
def fnExactDelayBoundSpec : ChangeSpec := { name := "fnExactDelayBound", fn := fun _ => fun
  | [d1, d2] => { results := [.lit (.bool true)], args := [d1, d2] }
  | _ => none }
def fnExactDelayBoundRow : OpenClaim := { program := "ytidoghpbeilipaa", sum := "256f644a8deca1b6de89e6368b87b636f04ca921d5a026dbb18332b2319e5387", func := "loop.example/g01176/laws.FnExactDelayBound", spec := "fnExactDelayBound", apart := false }
def FnExactDelayBoundSaid : Prop := fnExactDelayBoundRow.holds Try.pinned (OpenSpec.ofChange fnExactDelayBoundSpec)

/-- ITS FALSE NEIGHBOUR: 'it returns false'. Refute it at one input. -/
def fnExactDelayBoundWrong : ChangeSpec := { name := "fnExactDelayBound", fn := fun _ => fun
  | [d1, d2] => { results := [.lit (.bool false)], args := [d1, d2] }
  | _ => none }
def FnExactDelayBoundWrongFalsely : Prop := fnExactDelayBoundRow.holds Try.pinned (OpenSpec.ofChange fnExactDelayBoundWrong)

/-- 'laws.FnExactInRow': WHATEVER THE INPUT: true; the input reads as it did. -/
def fnExactInRowSpec : ChangeSpec := { name := "fnExactInRow", fn := fun _ => fun
  | [d1, d2] => { results := [.lit (.bool true)], args := [d1, d2] }
  | _ => none }
def fnExactInRowRow : OpenClaim := { program := "ytidoghpbeilipaa", sum := "256f644a8deca1b6de89e6368b87b636f04ca921d5a026dbb18332b2319e5387", func := "loop.example/g01176/laws.FnExactInRow", spec := "fnExactInRow", apart := false }
def FnExactInRowSaid : Prop := fnExactInRowRow.holds Try.pinned (OpenSpec.ofChange fnExactInRowSpec)

/-- ITS FALSE NEIGHBOUR: 'it returns false'. Refute it at one input. -/
def fnExactInRowWrong : ChangeSpec := { name := "fnExactInRow", fn := fun _ => fun
  | [d1, d2] => { results := [.lit (.bool false)], args := [d1, d2] }
  | _ => none }
def FnExactInRowWrongFalsely : Prop := fnExactInRowRow.holds Try.pinned (OpenSpec.ofChange fnExactInRowWrong)

/-- 'laws.FnExactBucketBehind': WHATEVER THE INPUT: true; the input reads as it did. -/
def fnExactBucketBehindSpec : ChangeSpec := { name := "fnExactBucketBehind", fn := fun _ => fun
  | [d1, d2] => { results := [.lit (.bool true)], args := [d1, d2] }
  | _ => none }
def fnExactBucketBehindRow : OpenClaim := { program := "ytidoghpbeilipaa", sum := "256f644a8deca1b6de89e6368b87b636f04ca921d5a026dbb18332b2319e5387", func := "loop.example/g01176/laws.FnExactBucketBehind", spec := "fnExactBucketBehind", apart := false }
def FnExactBucketBehindSaid : Prop := fnExactBucketBehindRow.holds Try.pinned (OpenSpec.ofChange fnExactBucketBehindSpec)

/-- ITS FALSE NEIGHBOUR: 'it returns false'. Refute it at one input. -/
def fnExactBucketBehindWrong : ChangeSpec := { name := "fnExactBucketBehind", fn := fun _ => fun
  | [d1, d2] => { results := [.lit (.bool false)], args := [d1, d2] }
  | _ => none }
def FnExactBucketBehindWrongFalsely : Prop := fnExactBucketBehindRow.holds Try.pinned (OpenSpec.ofChange fnExactBucketBehindWrong)

/-- 'laws.FnExactWorstTraffic': WHATEVER THE INPUT: true; the input reads as it did. -/
def fnExactWorstTrafficSpec : ChangeSpec := { name := "fnExactWorstTraffic", fn := fun _ => fun
  | [d1, d2] => { results := [.lit (.bool true)], args := [d1, d2] }
  | _ => none }
def fnExactWorstTrafficRow : OpenClaim := { program := "ytidoghpbeilipaa", sum := "256f644a8deca1b6de89e6368b87b636f04ca921d5a026dbb18332b2319e5387", func := "loop.example/g01176/laws.FnExactWorstTraffic", spec := "fnExactWorstTraffic", apart := false }
def FnExactWorstTrafficSaid : Prop := fnExactWorstTrafficRow.holds Try.pinned (OpenSpec.ofChange fnExactWorstTrafficSpec)

/-- ITS FALSE NEIGHBOUR: 'it returns false'. Refute it at one input. -/
def fnExactWorstTrafficWrong : ChangeSpec := { name := "fnExactWorstTraffic", fn := fun _ => fun
  | [d1, d2] => { results := [.lit (.bool false)], args := [d1, d2] }
  | _ => none }
def FnExactWorstTrafficWrongFalsely : Prop := fnExactWorstTrafficRow.holds Try.pinned (OpenSpec.ofChange fnExactWorstTrafficWrong)

/-- 'laws.FnExactIsTimedRing': WHATEVER THE INPUT: true; the input reads as it did. -/
def fnExactIsTimedRingSpec : ChangeSpec := { name := "fnExactIsTimedRing", fn := fun _ => fun
  | [d] => { results := [.lit (.bool true)], args := [d] }
  | _ => none }
def fnExactIsTimedRingRow : OpenClaim := { program := "ytidoghpbeilipaa", sum := "256f644a8deca1b6de89e6368b87b636f04ca921d5a026dbb18332b2319e5387", func := "loop.example/g01176/laws.FnExactIsTimedRing", spec := "fnExactIsTimedRing", unfollowed := true, recurses := true, apart := false }
def FnExactIsTimedRingSaid : Prop := fnExactIsTimedRingRow.holds Try.pinned (OpenSpec.ofChange fnExactIsTimedRingSpec)

/-- ITS FALSE NEIGHBOUR: 'it returns false'. Refute it at one input. -/
def fnExactIsTimedRingWrong : ChangeSpec := { name := "fnExactIsTimedRing", fn := fun _ => fun
  | [d] => { results := [.lit (.bool false)], args := [d] }
  | _ => none }
def FnExactIsTimedRingWrongFalsely : Prop := fnExactIsTimedRingRow.holds Try.pinned (OpenSpec.ofChange fnExactIsTimedRingWrong)

/- THE SECOND FORM. 'bulk': how many values and letters a reading holds, each counted each time it is reached (what is shared counts as often as it is met; a slice's spare places count too). A statement '..UptoSaid' is the law's where the arguments, and the package variables that the reading takes, are together of bulk at most 1048576: NARROWER than '..Said'. Prove '..Said' where nothing that the law and all that it calls make is longer than what came in: it says more and counts as full. Else prove '..UptoSaid'. A law counts once. -/
mutual
def uptoBulk {H : Type} : DataW H → Nat
  | .lit (.string bytes) => bytes.length + 1
  | .lit _ => 1
  | .nil => 1
  | .ptr d => uptoBulk d + 1
  | .slice elems spare => uptoBulkAll elems + uptoBulkAll spare + 1
  | .agg parts => uptoBulkAll parts + 1
  | .iface _ d => uptoBulk d + 1
  | .map entries => uptoBulkEntries entries + 1
  | .held _ => 1
def uptoBulkAll {H : Type} : List (DataW H) → Nat
  | [] => 0
  | d :: r => uptoBulk d + uptoBulkAll r
def uptoBulkEntries {H : Type} : List (Lit × DataW H) → Nat
  | [] => 0
  | x :: r => uptoBulkEntry x + uptoBulkEntries r
def uptoBulkEntry {H : Type} : Lit × DataW H → Nat
  | (.string bytes, d) => bytes.length + uptoBulk d + 1
  | (_, d) => uptoBulk d + 1
 end
def uptoSmall : (H : Type) → List (DataW H) → Bool := fun _ ds => decide (uptoBulkAll ds ≤ 1048576)
def OpenSpec.upto (s : _root_.Go.ChangeSpec) : _root_.Go.OpenSpec := { _root_.Go.OpenSpec.ofChange s with cond := some uptoSmall }

/-- 'laws.FnExactBacklogBound', WHERE WHAT IT READS IS OF BULK AT MOST 1048576: true; the input reads as it did. -/
def fnExactBacklogBoundUptoRow : OpenClaim := { program := "ytidoghpbeilipaa", sum := "256f644a8deca1b6de89e6368b87b636f04ca921d5a026dbb18332b2319e5387", func := "loop.example/g01176/laws.FnExactBacklogBound", spec := "fnExactBacklogBound", apart := false, narrowed := true }
def FnExactBacklogBoundUptoSaid : Prop := fnExactBacklogBoundUptoRow.holds Try.pinned (OpenSpec.upto fnExactBacklogBoundSpec)

/-- 'laws.FnExactDelayBound', WHERE WHAT IT READS IS OF BULK AT MOST 1048576: true; the input reads as it did. -/
def fnExactDelayBoundUptoRow : OpenClaim := { program := "ytidoghpbeilipaa", sum := "256f644a8deca1b6de89e6368b87b636f04ca921d5a026dbb18332b2319e5387", func := "loop.example/g01176/laws.FnExactDelayBound", spec := "fnExactDelayBound", apart := false, narrowed := true }
def FnExactDelayBoundUptoSaid : Prop := fnExactDelayBoundUptoRow.holds Try.pinned (OpenSpec.upto fnExactDelayBoundSpec)

/-- 'laws.FnExactInRow', WHERE WHAT IT READS IS OF BULK AT MOST 1048576: true; the input reads as it did. -/
def fnExactInRowUptoRow : OpenClaim := { program := "ytidoghpbeilipaa", sum := "256f644a8deca1b6de89e6368b87b636f04ca921d5a026dbb18332b2319e5387", func := "loop.example/g01176/laws.FnExactInRow", spec := "fnExactInRow", apart := false, narrowed := true }
def FnExactInRowUptoSaid : Prop := fnExactInRowUptoRow.holds Try.pinned (OpenSpec.upto fnExactInRowSpec)

/-- 'laws.FnExactBucketBehind', WHERE WHAT IT READS IS OF BULK AT MOST 1048576: true; the input reads as it did. -/
def fnExactBucketBehindUptoRow : OpenClaim := { program := "ytidoghpbeilipaa", sum := "256f644a8deca1b6de89e6368b87b636f04ca921d5a026dbb18332b2319e5387", func := "loop.example/g01176/laws.FnExactBucketBehind", spec := "fnExactBucketBehind", apart := false, narrowed := true }
def FnExactBucketBehindUptoSaid : Prop := fnExactBucketBehindUptoRow.holds Try.pinned (OpenSpec.upto fnExactBucketBehindSpec)

/-- 'laws.FnExactWorstTraffic', WHERE WHAT IT READS IS OF BULK AT MOST 1048576: true; the input reads as it did. -/
def fnExactWorstTrafficUptoRow : OpenClaim := { program := "ytidoghpbeilipaa", sum := "256f644a8deca1b6de89e6368b87b636f04ca921d5a026dbb18332b2319e5387", func := "loop.example/g01176/laws.FnExactWorstTraffic", spec := "fnExactWorstTraffic", apart := false, narrowed := true }
def FnExactWorstTrafficUptoSaid : Prop := fnExactWorstTrafficUptoRow.holds Try.pinned (OpenSpec.upto fnExactWorstTrafficSpec)

/-- 'laws.FnExactIsTimedRing', WHERE WHAT IT READS IS OF BULK AT MOST 1048576: true; the input reads as it did. -/
def fnExactIsTimedRingUptoRow : OpenClaim := { program := "ytidoghpbeilipaa", sum := "256f644a8deca1b6de89e6368b87b636f04ca921d5a026dbb18332b2319e5387", func := "loop.example/g01176/laws.FnExactIsTimedRing", spec := "fnExactIsTimedRing", unfollowed := true, recurses := true, apart := false, narrowed := true }
def FnExactIsTimedRingUptoSaid : Prop := fnExactIsTimedRingUptoRow.holds Try.pinned (OpenSpec.upto fnExactIsTimedRingSpec)

end Rows
end Go.Proofs.Ytidoghpbeilipaa
