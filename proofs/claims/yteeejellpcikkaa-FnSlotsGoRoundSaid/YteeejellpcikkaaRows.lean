/-
  No cell of these rows narrows 'for every input' (looked for: loops, veiled, ifaces, maps, wideKeys, modest, calm, conditions, laid).
  DERIVED. THE GIVEN ROWS OF THIS SEAT. 2 by the template 'for every input the law returns true; each argument reads behind the call as it read before'; 0 by the template 'total and deterministic' (their statements: YteeejellpcikkaaTotals.lean).
  GIVEN WITH THE SEED: the statements are not yours to turn. If you find one false, say at which input.
  Laid BY PROGRAM, IN A SANDBOX (cutbox-rows.mjs): the forced cells as the released guide's own fill.sh prints them over the translation f678d43abb754fbd… (all of the seat's roots in one cut). By AI agents, Wed Nov 11 2026. No macro, syntax, notation, axiom, sorry.
-/
import Derived.Test.YteeejellpcikkaaChecked
import GoSem.Claim
import GoSem.ClaimJoined
import GoSem.ClaimMapViews
import Derived.JoinedTies
import Derived.KernelRfl
namespace Go.Proofs.Yteeejellpcikkaa
/- THE CELL 'sum', in the pinned program and in every row, IS THE sha256 OF THE DUMP (.gsa) THAT YteeejellpcikkaaProg.lean LOADS. Nothing in Lean hashes anything: it is a label: what it is worth is what the hold of that sum in a sandbox is worth. -/
noncomputable def Try.pinned : Pinned := { name := "yteeejellpcikkaa", sum := "f678d43abb754fbd9292c2f5a7e6580451e6a7062ecb08db713ed34a8c15b05f", checked := Try.checked }
namespace Rows
def none {H : Type} : Left H := { results := [], args := [] }

/-- 'laws.FnSlotsHeld': WHATEVER THE INPUT: true; the input reads as it did. -/
def fnSlotsHeldSpec : ChangeSpec := { name := "fnSlotsHeld", fn := fun _ => fun
  | [d1, d2] => { results := [.lit (.bool true)], args := [d1, d2] }
  | _ => none }
def fnSlotsHeldRow : OpenClaim := { program := "yteeejellpcikkaa", sum := "f678d43abb754fbd9292c2f5a7e6580451e6a7062ecb08db713ed34a8c15b05f", func := "loop.example/g01176/laws.FnSlotsHeld", spec := "fnSlotsHeld", unfollowed := true, recurses := true, apart := false }
def FnSlotsHeldSaid : Prop := fnSlotsHeldRow.holds Try.pinned (OpenSpec.ofChange fnSlotsHeldSpec)

/-- ITS FALSE NEIGHBOUR: 'it returns false'. Refute it at one input. -/
def fnSlotsHeldWrong : ChangeSpec := { name := "fnSlotsHeld", fn := fun _ => fun
  | [d1, d2] => { results := [.lit (.bool false)], args := [d1, d2] }
  | _ => none }
def FnSlotsHeldWrongFalsely : Prop := fnSlotsHeldRow.holds Try.pinned (OpenSpec.ofChange fnSlotsHeldWrong)

/-- 'laws.FnSlotsGoRound': WHATEVER THE INPUT: true; the input reads as it did. -/
def fnSlotsGoRoundSpec : ChangeSpec := { name := "fnSlotsGoRound", fn := fun _ => fun
  | [d1, d2] => { results := [.lit (.bool true)], args := [d1, d2] }
  | _ => none }
def fnSlotsGoRoundRow : OpenClaim := { program := "yteeejellpcikkaa", sum := "f678d43abb754fbd9292c2f5a7e6580451e6a7062ecb08db713ed34a8c15b05f", func := "loop.example/g01176/laws.FnSlotsGoRound", spec := "fnSlotsGoRound", unfollowed := true, recurses := true, apart := false }
def FnSlotsGoRoundSaid : Prop := fnSlotsGoRoundRow.holds Try.pinned (OpenSpec.ofChange fnSlotsGoRoundSpec)

/-- ITS FALSE NEIGHBOUR: 'it returns false'. Refute it at one input. -/
def fnSlotsGoRoundWrong : ChangeSpec := { name := "fnSlotsGoRound", fn := fun _ => fun
  | [d1, d2] => { results := [.lit (.bool false)], args := [d1, d2] }
  | _ => none }
def FnSlotsGoRoundWrongFalsely : Prop := fnSlotsGoRoundRow.holds Try.pinned (OpenSpec.ofChange fnSlotsGoRoundWrong)

/- THE SECOND FORM. 'bulk': how many values and letters a reading holds, each counted each time it is reached (what is shared counts as often as it is met; a slice's spare places count too). A statement '..UptoSaid' is the law's where the arguments, and the package variables that the reading takes, are together of bulk at most 1048576: NARROWER than '..Said'. Prove '..Said' where nothing that the law and all that it calls make is longer than what came in: it says more and counts as full. Else prove '..UptoSaid'. A law counts once. -/
mutual
def uptoBulk {H : Type} : DataW H → Nat
  | .lit (.string bytes) => bytes.length + 1
  | .lit _ => 1
  | .nil => 1
  | .ptr d => uptoBulk d + 1
  | .slice elems spare => uptoBulkAll elems + uptoBulkAll spare + 1
  | .agg parts => uptoBulkAll parts + 1
  | .iface _ d => uptoBulk d + 1
  | .map entries => uptoBulkEntries entries + 1
  | .held _ => 1
def uptoBulkAll {H : Type} : List (DataW H) → Nat
  | [] => 0
  | d :: r => uptoBulk d + uptoBulkAll r
def uptoBulkEntries {H : Type} : List (Lit × DataW H) → Nat
  | [] => 0
  | x :: r => uptoBulkEntry x + uptoBulkEntries r
def uptoBulkEntry {H : Type} : Lit × DataW H → Nat
  | (.string bytes, d) => bytes.length + uptoBulk d + 1
  | (_, d) => uptoBulk d + 1
 end
def uptoSmall : (H : Type) → List (DataW H) → Bool := fun _ ds => decide (uptoBulkAll ds ≤ 1048576)
def OpenSpec.upto (s : _root_.Go.ChangeSpec) : _root_.Go.OpenSpec := { _root_.Go.OpenSpec.ofChange s with cond := some uptoSmall }

/-- 'laws.FnSlotsHeld', WHERE WHAT IT READS IS OF BULK AT MOST 1048576: true; the input reads as it did. -/
def fnSlotsHeldUptoRow : OpenClaim := { program := "yteeejellpcikkaa", sum := "f678d43abb754fbd9292c2f5a7e6580451e6a7062ecb08db713ed34a8c15b05f", func := "loop.example/g01176/laws.FnSlotsHeld", spec := "fnSlotsHeld", unfollowed := true, recurses := true, apart := false, narrowed := true }
def FnSlotsHeldUptoSaid : Prop := fnSlotsHeldUptoRow.holds Try.pinned (OpenSpec.upto fnSlotsHeldSpec)

/-- 'laws.FnSlotsGoRound', WHERE WHAT IT READS IS OF BULK AT MOST 1048576: true; the input reads as it did. -/
def fnSlotsGoRoundUptoRow : OpenClaim := { program := "yteeejellpcikkaa", sum := "f678d43abb754fbd9292c2f5a7e6580451e6a7062ecb08db713ed34a8c15b05f", func := "loop.example/g01176/laws.FnSlotsGoRound", spec := "fnSlotsGoRound", unfollowed := true, recurses := true, apart := false, narrowed := true }
def FnSlotsGoRoundUptoSaid : Prop := fnSlotsGoRoundUptoRow.holds Try.pinned (OpenSpec.upto fnSlotsGoRoundSpec)

end Rows
end Go.Proofs.Yteeejellpcikkaa
