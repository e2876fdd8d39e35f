/-
  No cell of these rows narrows 'for every input' (looked for: loops, veiled, ifaces, maps, wideKeys, modest, calm, conditions, laid).
  DERIVED. THE GIVEN ROWS OF THIS SEAT. 2 by the template 'for every input the law returns true; each argument reads behind the call as it read before'; 0 by the template 'total and deterministic' (their statements: YtoeninciicickaaTotals.lean).
  GIVEN WITH THE SEED: the statements are not yours to turn. If you find one false, say at which input.
  Laid BY PROGRAM, IN A SANDBOX (cutbox-rows.mjs): the forced cells as the released guide's own fill.sh prints them over the translation bec03c15d23fa03d… (all of the seat's roots in one cut). By AI agents, Wed Nov 11 2026. No macro, syntax, notation, axiom, sorry.
-/
import Derived.Test.YtoeninciicickaaChecked
import GoSem.Claim
import GoSem.ClaimJoined
import GoSem.ClaimMapViews
import Derived.JoinedTies
import Derived.KernelRfl
namespace Go.Proofs.Ytoeninciicickaa
/- THE CELL 'sum', in the pinned program and in every row, IS THE sha256 OF THE DUMP (.gsa) THAT YtoeninciicickaaProg.lean LOADS. Nothing in Lean hashes anything: it is a label: what it is worth is what the hold of that sum in a sandbox is worth. -/
noncomputable def Try.pinned : Pinned := { name := "ytoeninciicickaa", sum := "bec03c15d23fa03d509275de40cad9e42068678cc6a56e1cfe6d4550646baa5a", checked := Try.checked }
namespace Rows
def none {H : Type} : Left H := { results := [], args := [] }

/-- 'laws.FnBitsStuffed': WHATEVER THE INPUT: true; the input reads as it did. -/
def fnBitsStuffedSpec : ChangeSpec := { name := "fnBitsStuffed", fn := fun _ => fun
  | [d1, d2] => { results := [.lit (.bool true)], args := [d1, d2] }
  | _ => none }
def fnBitsStuffedRow : OpenClaim := { program := "ytoeninciicickaa", sum := "bec03c15d23fa03d509275de40cad9e42068678cc6a56e1cfe6d4550646baa5a", func := "loop.example/g01176/laws.FnBitsStuffed", spec := "fnBitsStuffed", unfollowed := true, recurses := true, apart := false }
def FnBitsStuffedSaid : Prop := fnBitsStuffedRow.holds Try.pinned (OpenSpec.ofChange fnBitsStuffedSpec)

/-- ITS FALSE NEIGHBOUR: 'it returns false'. Refute it at one input. -/
def fnBitsStuffedWrong : ChangeSpec := { name := "fnBitsStuffed", fn := fun _ => fun
  | [d1, d2] => { results := [.lit (.bool false)], args := [d1, d2] }
  | _ => none }
def FnBitsStuffedWrongFalsely : Prop := fnBitsStuffedRow.holds Try.pinned (OpenSpec.ofChange fnBitsStuffedWrong)

/-- 'laws.FnDamageIsFound': WHATEVER THE INPUT: true; the input reads as it did. -/
def fnDamageIsFoundSpec : ChangeSpec := { name := "fnDamageIsFound", fn := fun _ => fun
  | [d1, d2] => { results := [.lit (.bool true)], args := [d1, d2] }
  | _ => none }
def fnDamageIsFoundRow : OpenClaim := { program := "ytoeninciicickaa", sum := "bec03c15d23fa03d509275de40cad9e42068678cc6a56e1cfe6d4550646baa5a", func := "loop.example/g01176/laws.FnDamageIsFound", spec := "fnDamageIsFound", unfollowed := true, recurses := true, apart := false }
def FnDamageIsFoundSaid : Prop := fnDamageIsFoundRow.holds Try.pinned (OpenSpec.ofChange fnDamageIsFoundSpec)

/-- ITS FALSE NEIGHBOUR: 'it returns false'. Refute it at one input. -/
def fnDamageIsFoundWrong : ChangeSpec := { name := "fnDamageIsFound", fn := fun _ => fun
  | [d1, d2] => { results := [.lit (.bool false)], args := [d1, d2] }
  | _ => none }
def FnDamageIsFoundWrongFalsely : Prop := fnDamageIsFoundRow.holds Try.pinned (OpenSpec.ofChange fnDamageIsFoundWrong)

/- THE SECOND FORM. 'bulk': how many values and letters a reading holds, each counted each time it is reached (what is shared counts as often as it is met; a slice's spare places count too). A statement '..UptoSaid' is the law's where the arguments, and the package variables that the reading takes, are together of bulk at most 1048576: NARROWER than '..Said'. Prove '..Said' where nothing that the law and all that it calls make is longer than what came in: it says more and counts as full. Else prove '..UptoSaid'. A law counts once. -/
mutual
def uptoBulk {H : Type} : DataW H → Nat
  | .lit (.string bytes) => bytes.length + 1
  | .lit _ => 1
  | .nil => 1
  | .ptr d => uptoBulk d + 1
  | .slice elems spare => uptoBulkAll elems + uptoBulkAll spare + 1
  | .agg parts => uptoBulkAll parts + 1
  | .iface _ d => uptoBulk d + 1
  | .map entries => uptoBulkEntries entries + 1
  | .held _ => 1
def uptoBulkAll {H : Type} : List (DataW H) → Nat
  | [] => 0
  | d :: r => uptoBulk d + uptoBulkAll r
def uptoBulkEntries {H : Type} : List (Lit × DataW H) → Nat
  | [] => 0
  | x :: r => uptoBulkEntry x + uptoBulkEntries r
def uptoBulkEntry {H : Type} : Lit × DataW H → Nat
  | (.string bytes, d) => bytes.length + uptoBulk d + 1
  | (_, d) => uptoBulk d + 1
 end
def uptoSmall : (H : Type) → List (DataW H) → Bool := fun _ ds => decide (uptoBulkAll ds ≤ 1048576)
def OpenSpec.upto (s : _root_.Go.ChangeSpec) : _root_.Go.OpenSpec := { _root_.Go.OpenSpec.ofChange s with cond := some uptoSmall }

/-- 'laws.FnBitsStuffed', WHERE WHAT IT READS IS OF BULK AT MOST 1048576: true; the input reads as it did. -/
def fnBitsStuffedUptoRow : OpenClaim := { program := "ytoeninciicickaa", sum := "bec03c15d23fa03d509275de40cad9e42068678cc6a56e1cfe6d4550646baa5a", func := "loop.example/g01176/laws.FnBitsStuffed", spec := "fnBitsStuffed", unfollowed := true, recurses := true, apart := false, narrowed := true }
def FnBitsStuffedUptoSaid : Prop := fnBitsStuffedUptoRow.holds Try.pinned (OpenSpec.upto fnBitsStuffedSpec)

/-- 'laws.FnDamageIsFound', WHERE WHAT IT READS IS OF BULK AT MOST 1048576: true; the input reads as it did. -/
def fnDamageIsFoundUptoRow : OpenClaim := { program := "ytoeninciicickaa", sum := "bec03c15d23fa03d509275de40cad9e42068678cc6a56e1cfe6d4550646baa5a", func := "loop.example/g01176/laws.FnDamageIsFound", spec := "fnDamageIsFound", unfollowed := true, recurses := true, apart := false, narrowed := true }
def FnDamageIsFoundUptoSaid : Prop := fnDamageIsFoundUptoRow.holds Try.pinned (OpenSpec.upto fnDamageIsFoundSpec)

end Rows
end Go.Proofs.Ytoeninciicickaa
