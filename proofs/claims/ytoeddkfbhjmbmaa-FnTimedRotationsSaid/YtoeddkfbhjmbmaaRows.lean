/-
  No cell of these rows narrows 'for every input' (looked for: loops, veiled, ifaces, maps, wideKeys, modest, calm, conditions, laid).
  DERIVED. THE GIVEN ROWS OF THIS SEAT. 11 by the template 'for every input the law returns true; each argument reads behind the call as it read before'; 0 by the template 'total and deterministic' (their statements: YtoeddkfbhjmbmaaTotals.lean).
  GIVEN WITH THE SEED: the statements are not yours to turn. If you find one false, say at which input.
  Laid BY PROGRAM, IN A SANDBOX (cutbox-rows.mjs): the forced cells as the released guide's own fill.sh prints them over the translation 3140cc72f24536be… (all of the seat's roots in one cut). By AI agents, Wed Nov 11 2026. No macro, syntax, notation, axiom, sorry.
-/
import Derived.Test.YtoeddkfbhjmbmaaChecked
import GoSem.Claim
import GoSem.ClaimJoined
import GoSem.ClaimMapViews
import Derived.JoinedTies
import Derived.KernelRfl
namespace Go.Proofs.Ytoeddkfbhjmbmaa
/- THE CELL 'sum', in the pinned program and in every row, IS THE sha256 OF THE DUMP (.gsa) THAT YtoeddkfbhjmbmaaProg.lean LOADS. Nothing in Lean hashes anything: it is a label: what it is worth is what the hold of that sum in a sandbox is worth. -/
noncomputable def Try.pinned : Pinned := { name := "ytoeddkfbhjmbmaa", sum := "3140cc72f24536bedf955cbbbe2fc1e0b4ad942fcf84f8e5898410f1edf29d77", checked := Try.checked }
namespace Rows
def none {H : Type} : Left H := { results := [], args := [] }

/-- 'laws.FnExactFixedWithin': WHATEVER THE INPUT: true; the input reads as it did. -/
def fnExactFixedWithinSpec : ChangeSpec := { name := "fnExactFixedWithin", fn := fun _ => fun
  | [d1, d2, d3] => { results := [.lit (.bool true)], args := [d1, d2, d3] }
  | _ => none }
def fnExactFixedWithinRow : OpenClaim := { program := "ytoeddkfbhjmbmaa", sum := "3140cc72f24536bedf955cbbbe2fc1e0b4ad942fcf84f8e5898410f1edf29d77", func := "loop.example/g01176/laws.FnExactFixedWithin", spec := "fnExactFixedWithin", unfollowed := true, recurses := true, apart := false }
def FnExactFixedWithinSaid : Prop := fnExactFixedWithinRow.holds Try.pinned (OpenSpec.ofChange fnExactFixedWithinSpec)

/-- ITS FALSE NEIGHBOUR: 'it returns false'. Refute it at one input. -/
def fnExactFixedWithinWrong : ChangeSpec := { name := "fnExactFixedWithin", fn := fun _ => fun
  | [d1, d2, d3] => { results := [.lit (.bool false)], args := [d1, d2, d3] }
  | _ => none }
def FnExactFixedWithinWrongFalsely : Prop := fnExactFixedWithinRow.holds Try.pinned (OpenSpec.ofChange fnExactFixedWithinWrong)

/-- 'laws.FnExactFreeShare': WHATEVER THE INPUT: true; the input reads as it did. -/
def fnExactFreeShareSpec : ChangeSpec := { name := "fnExactFreeShare", fn := fun _ => fun
  | [d] => { results := [.lit (.bool true)], args := [d] }
  | _ => none }
def fnExactFreeShareRow : OpenClaim := { program := "ytoeddkfbhjmbmaa", sum := "3140cc72f24536bedf955cbbbe2fc1e0b4ad942fcf84f8e5898410f1edf29d77", func := "loop.example/g01176/laws.FnExactFreeShare", spec := "fnExactFreeShare", unfollowed := true, recurses := true, apart := false }
def FnExactFreeShareSaid : Prop := fnExactFreeShareRow.holds Try.pinned (OpenSpec.ofChange fnExactFreeShareSpec)

/-- ITS FALSE NEIGHBOUR: 'it returns false'. Refute it at one input. -/
def fnExactFreeShareWrong : ChangeSpec := { name := "fnExactFreeShare", fn := fun _ => fun
  | [d] => { results := [.lit (.bool false)], args := [d] }
  | _ => none }
def FnExactFreeShareWrongFalsely : Prop := fnExactFreeShareRow.holds Try.pinned (OpenSpec.ofChange fnExactFreeShareWrong)

/-- 'laws.FnExactRotationBound': WHATEVER THE INPUT: true; the input reads as it did. -/
def fnExactRotationBoundSpec : ChangeSpec := { name := "fnExactRotationBound", fn := fun _ => fun
  | [d] => { results := [.lit (.bool true)], args := [d] }
  | _ => none }
def fnExactRotationBoundRow : OpenClaim := { program := "ytoeddkfbhjmbmaa", sum := "3140cc72f24536bedf955cbbbe2fc1e0b4ad942fcf84f8e5898410f1edf29d77", func := "loop.example/g01176/laws.FnExactRotationBound", spec := "fnExactRotationBound", unfollowed := true, recurses := true, apart := false }
def FnExactRotationBoundSaid : Prop := fnExactRotationBoundRow.holds Try.pinned (OpenSpec.ofChange fnExactRotationBoundSpec)

/-- ITS FALSE NEIGHBOUR: 'it returns false'. Refute it at one input. -/
def fnExactRotationBoundWrong : ChangeSpec := { name := "fnExactRotationBound", fn := fun _ => fun
  | [d] => { results := [.lit (.bool false)], args := [d] }
  | _ => none }
def FnExactRotationBoundWrongFalsely : Prop := fnExactRotationBoundRow.holds Try.pinned (OpenSpec.ofChange fnExactRotationBoundWrong)

/-- 'laws.FnExactBacklogServed': WHATEVER THE INPUT: true; the input reads as it did. -/
def fnExactBacklogServedSpec : ChangeSpec := { name := "fnExactBacklogServed", fn := fun _ => fun
  | [d1, d2] => { results := [.lit (.bool true)], args := [d1, d2] }
  | _ => none }
def fnExactBacklogServedRow : OpenClaim := { program := "ytoeddkfbhjmbmaa", sum := "3140cc72f24536bedf955cbbbe2fc1e0b4ad942fcf84f8e5898410f1edf29d77", func := "loop.example/g01176/laws.FnExactBacklogServed", spec := "fnExactBacklogServed", unfollowed := true, recurses := true, apart := false }
def FnExactBacklogServedSaid : Prop := fnExactBacklogServedRow.holds Try.pinned (OpenSpec.ofChange fnExactBacklogServedSpec)

/-- ITS FALSE NEIGHBOUR: 'it returns false'. Refute it at one input. -/
def fnExactBacklogServedWrong : ChangeSpec := { name := "fnExactBacklogServed", fn := fun _ => fun
  | [d1, d2] => { results := [.lit (.bool false)], args := [d1, d2] }
  | _ => none }
def FnExactBacklogServedWrongFalsely : Prop := fnExactBacklogServedRow.holds Try.pinned (OpenSpec.ofChange fnExactBacklogServedWrong)

/-- 'laws.FnExactServedBy': WHATEVER THE INPUT: true; the input reads as it did. -/
def fnExactServedBySpec : ChangeSpec := { name := "fnExactServedBy", fn := fun _ => fun
  | [d1, d2] => { results := [.lit (.bool true)], args := [d1, d2] }
  | _ => none }
def fnExactServedByRow : OpenClaim := { program := "ytoeddkfbhjmbmaa", sum := "3140cc72f24536bedf955cbbbe2fc1e0b4ad942fcf84f8e5898410f1edf29d77", func := "loop.example/g01176/laws.FnExactServedBy", spec := "fnExactServedBy", unfollowed := true, recurses := true, apart := false }
def FnExactServedBySaid : Prop := fnExactServedByRow.holds Try.pinned (OpenSpec.ofChange fnExactServedBySpec)

/-- ITS FALSE NEIGHBOUR: 'it returns false'. Refute it at one input. -/
def fnExactServedByWrong : ChangeSpec := { name := "fnExactServedBy", fn := fun _ => fun
  | [d1, d2] => { results := [.lit (.bool false)], args := [d1, d2] }
  | _ => none }
def FnExactServedByWrongFalsely : Prop := fnExactServedByRow.holds Try.pinned (OpenSpec.ofChange fnExactServedByWrong)

/-- 'laws.FnExactDelayServed': WHATEVER THE INPUT: true; the input reads as it did. -/
def fnExactDelayServedSpec : ChangeSpec := { name := "fnExactDelayServed", fn := fun _ => fun
  | [d1, d2] => { results := [.lit (.bool true)], args := [d1, d2] }
  | _ => none }
def fnExactDelayServedRow : OpenClaim := { program := "ytoeddkfbhjmbmaa", sum := "3140cc72f24536bedf955cbbbe2fc1e0b4ad942fcf84f8e5898410f1edf29d77", func := "loop.example/g01176/laws.FnExactDelayServed", spec := "fnExactDelayServed", unfollowed := true, recurses := true, apart := false }
def FnExactDelayServedSaid : Prop := fnExactDelayServedRow.holds Try.pinned (OpenSpec.ofChange fnExactDelayServedSpec)

/-- ITS FALSE NEIGHBOUR: 'it returns false'. Refute it at one input. -/
def fnExactDelayServedWrong : ChangeSpec := { name := "fnExactDelayServed", fn := fun _ => fun
  | [d1, d2] => { results := [.lit (.bool false)], args := [d1, d2] }
  | _ => none }
def FnExactDelayServedWrongFalsely : Prop := fnExactDelayServedRow.holds Try.pinned (OpenSpec.ofChange fnExactDelayServedWrong)

/-- 'laws.FnExactGreatestRotation': WHATEVER THE INPUT: true; the input reads as it did. -/
def fnExactGreatestRotationSpec : ChangeSpec := { name := "fnExactGreatestRotation", fn := fun _ => fun
  | [d1, d2] => { results := [.lit (.bool true)], args := [d1, d2] }
  | _ => none }
def fnExactGreatestRotationRow : OpenClaim := { program := "ytoeddkfbhjmbmaa", sum := "3140cc72f24536bedf955cbbbe2fc1e0b4ad942fcf84f8e5898410f1edf29d77", func := "loop.example/g01176/laws.FnExactGreatestRotation", spec := "fnExactGreatestRotation", unfollowed := true, recurses := true, apart := false }
def FnExactGreatestRotationSaid : Prop := fnExactGreatestRotationRow.holds Try.pinned (OpenSpec.ofChange fnExactGreatestRotationSpec)

/-- ITS FALSE NEIGHBOUR: 'it returns false'. Refute it at one input. -/
def fnExactGreatestRotationWrong : ChangeSpec := { name := "fnExactGreatestRotation", fn := fun _ => fun
  | [d1, d2] => { results := [.lit (.bool false)], args := [d1, d2] }
  | _ => none }
def FnExactGreatestRotationWrongFalsely : Prop := fnExactGreatestRotationRow.holds Try.pinned (OpenSpec.ofChange fnExactGreatestRotationWrong)

/-- 'laws.FnExactTimedVisits': WHATEVER THE INPUT: true; the input reads as it did. -/
def fnExactTimedVisitsSpec : ChangeSpec := { name := "fnExactTimedVisits", fn := fun _ => fun
  | [d1, d2] => { results := [.lit (.bool true)], args := [d1, d2] }
  | _ => none }
def fnExactTimedVisitsRow : OpenClaim := { program := "ytoeddkfbhjmbmaa", sum := "3140cc72f24536bedf955cbbbe2fc1e0b4ad942fcf84f8e5898410f1edf29d77", func := "loop.example/g01176/laws.FnExactTimedVisits", spec := "fnExactTimedVisits", unfollowed := true, recurses := true, apart := false }
def FnExactTimedVisitsSaid : Prop := fnExactTimedVisitsRow.holds Try.pinned (OpenSpec.ofChange fnExactTimedVisitsSpec)

/-- ITS FALSE NEIGHBOUR: 'it returns false'. Refute it at one input. -/
def fnExactTimedVisitsWrong : ChangeSpec := { name := "fnExactTimedVisits", fn := fun _ => fun
  | [d1, d2] => { results := [.lit (.bool false)], args := [d1, d2] }
  | _ => none }
def FnExactTimedVisitsWrongFalsely : Prop := fnExactTimedVisitsRow.holds Try.pinned (OpenSpec.ofChange fnExactTimedVisitsWrong)

/-- 'laws.FnExactRotationsOf': WHATEVER THE INPUT: true; the input reads as it did. -/
def fnExactRotationsOfSpec : ChangeSpec := { name := "fnExactRotationsOf", fn := fun _ => fun
  | [d1, d2] => { results := [.lit (.bool true)], args := [d1, d2] }
  | _ => none }
def fnExactRotationsOfRow : OpenClaim := { program := "ytoeddkfbhjmbmaa", sum := "3140cc72f24536bedf955cbbbe2fc1e0b4ad942fcf84f8e5898410f1edf29d77", func := "loop.example/g01176/laws.FnExactRotationsOf", spec := "fnExactRotationsOf", unfollowed := true, recurses := true, apart := false }
def FnExactRotationsOfSaid : Prop := fnExactRotationsOfRow.holds Try.pinned (OpenSpec.ofChange fnExactRotationsOfSpec)

/-- ITS FALSE NEIGHBOUR: 'it returns false'. Refute it at one input. -/
def fnExactRotationsOfWrong : ChangeSpec := { name := "fnExactRotationsOf", fn := fun _ => fun
  | [d1, d2] => { results := [.lit (.bool false)], args := [d1, d2] }
  | _ => none }
def FnExactRotationsOfWrongFalsely : Prop := fnExactRotationsOfRow.holds Try.pinned (OpenSpec.ofChange fnExactRotationsOfWrong)

/-- 'laws.FnTimedRotations': WHATEVER THE INPUT: true; the input reads as it did. -/
def fnTimedRotationsSpec : ChangeSpec := { name := "fnTimedRotations", fn := fun _ => fun
  | [d1, d2] => { results := [.lit (.bool true)], args := [d1, d2] }
  | _ => none }
def fnTimedRotationsRow : OpenClaim := { program := "ytoeddkfbhjmbmaa", sum := "3140cc72f24536bedf955cbbbe2fc1e0b4ad942fcf84f8e5898410f1edf29d77", func := "loop.example/g01176/laws.FnTimedRotations", spec := "fnTimedRotations", unfollowed := true, recurses := true, apart := false }
def FnTimedRotationsSaid : Prop := fnTimedRotationsRow.holds Try.pinned (OpenSpec.ofChange fnTimedRotationsSpec)

/-- ITS FALSE NEIGHBOUR: 'it returns false'. Refute it at one input. -/
def fnTimedRotationsWrong : ChangeSpec := { name := "fnTimedRotations", fn := fun _ => fun
  | [d1, d2] => { results := [.lit (.bool false)], args := [d1, d2] }
  | _ => none }
def FnTimedRotationsWrongFalsely : Prop := fnTimedRotationsRow.holds Try.pinned (OpenSpec.ofChange fnTimedRotationsWrong)

/-- 'laws.FnBoundsHold': WHATEVER THE INPUT: true; the input reads as it did. -/
def fnBoundsHoldSpec : ChangeSpec := { name := "fnBoundsHold", fn := fun _ => fun
  | [d1, d2] => { results := [.lit (.bool true)], args := [d1, d2] }
  | _ => none }
def fnBoundsHoldRow : OpenClaim := { program := "ytoeddkfbhjmbmaa", sum := "3140cc72f24536bedf955cbbbe2fc1e0b4ad942fcf84f8e5898410f1edf29d77", func := "loop.example/g01176/laws.FnBoundsHold", spec := "fnBoundsHold", unfollowed := true, recurses := true, apart := false }
def FnBoundsHoldSaid : Prop := fnBoundsHoldRow.holds Try.pinned (OpenSpec.ofChange fnBoundsHoldSpec)

/-- ITS FALSE NEIGHBOUR: 'it returns false'. Refute it at one input. -/
def fnBoundsHoldWrong : ChangeSpec := { name := "fnBoundsHold", fn := fun _ => fun
  | [d1, d2] => { results := [.lit (.bool false)], args := [d1, d2] }
  | _ => none }
def FnBoundsHoldWrongFalsely : Prop := fnBoundsHoldRow.holds Try.pinned (OpenSpec.ofChange fnBoundsHoldWrong)

/- THE SECOND FORM. 'bulk': how many values and letters a reading holds, each counted each time it is reached (what is shared counts as often as it is met; a slice's spare places count too). A statement '..UptoSaid' is the law's where the arguments, and the package variables that the reading takes, are together of bulk at most 1048576: NARROWER than '..Said'. Prove '..Said' where nothing that the law and all that it calls make is longer than what came in: it says more and counts as full. Else prove '..UptoSaid'. A law counts once. -/
mutual
def uptoBulk {H : Type} : DataW H → Nat
  | .lit (.string bytes) => bytes.length + 1
  | .lit _ => 1
  | .nil => 1
  | .ptr d => uptoBulk d + 1
  | .slice elems spare => uptoBulkAll elems + uptoBulkAll spare + 1
  | .agg parts => uptoBulkAll parts + 1
  | .iface _ d => uptoBulk d + 1
  | .map entries => uptoBulkEntries entries + 1
  | .held _ => 1
def uptoBulkAll {H : Type} : List (DataW H) → Nat
  | [] => 0
  | d :: r => uptoBulk d + uptoBulkAll r
def uptoBulkEntries {H : Type} : List (Lit × DataW H) → Nat
  | [] => 0
  | x :: r => uptoBulkEntry x + uptoBulkEntries r
def uptoBulkEntry {H : Type} : Lit × DataW H → Nat
  | (.string bytes, d) => bytes.length + uptoBulk d + 1
  | (_, d) => uptoBulk d + 1
 end
def uptoSmall : (H : Type) → List (DataW H) → Bool := fun _ ds => decide (uptoBulkAll ds ≤ 1048576)
def OpenSpec.upto (s : _root_.Go.ChangeSpec) : _root_.Go.OpenSpec := { _root_.Go.OpenSpec.ofChange s with cond := some uptoSmall }

/-- 'laws.FnExactFixedWithin', WHERE WHAT IT READS IS OF BULK AT MOST 1048576: true; the input reads as it did. -/
def fnExactFixedWithinUptoRow : OpenClaim := { program := "ytoeddkfbhjmbmaa", sum := "3140cc72f24536bedf955cbbbe2fc1e0b4ad942fcf84f8e5898410f1edf29d77", func := "loop.example/g01176/laws.FnExactFixedWithin", spec := "fnExactFixedWithin", unfollowed := true, recurses := true, apart := false, narrowed := true }
def FnExactFixedWithinUptoSaid : Prop := fnExactFixedWithinUptoRow.holds Try.pinned (OpenSpec.upto fnExactFixedWithinSpec)

/-- 'laws.FnExactFreeShare', WHERE WHAT IT READS IS OF BULK AT MOST 1048576: true; the input reads as it did. -/
def fnExactFreeShareUptoRow : OpenClaim := { program := "ytoeddkfbhjmbmaa", sum := "3140cc72f24536bedf955cbbbe2fc1e0b4ad942fcf84f8e5898410f1edf29d77", func := "loop.example/g01176/laws.FnExactFreeShare", spec := "fnExactFreeShare", unfollowed := true, recurses := true, apart := false, narrowed := true }
def FnExactFreeShareUptoSaid : Prop := fnExactFreeShareUptoRow.holds Try.pinned (OpenSpec.upto fnExactFreeShareSpec)

/-- 'laws.FnExactRotationBound', WHERE WHAT IT READS IS OF BULK AT MOST 1048576: true; the input reads as it did. -/
def fnExactRotationBoundUptoRow : OpenClaim := { program := "ytoeddkfbhjmbmaa", sum := "3140cc72f24536bedf955cbbbe2fc1e0b4ad942fcf84f8e5898410f1edf29d77", func := "loop.example/g01176/laws.FnExactRotationBound", spec := "fnExactRotationBound", unfollowed := true, recurses := true, apart := false, narrowed := true }
def FnExactRotationBoundUptoSaid : Prop := fnExactRotationBoundUptoRow.holds Try.pinned (OpenSpec.upto fnExactRotationBoundSpec)

/-- 'laws.FnExactBacklogServed', WHERE WHAT IT READS IS OF BULK AT MOST 1048576: true; the input reads as it did. -/
def fnExactBacklogServedUptoRow : OpenClaim := { program := "ytoeddkfbhjmbmaa", sum := "3140cc72f24536bedf955cbbbe2fc1e0b4ad942fcf84f8e5898410f1edf29d77", func := "loop.example/g01176/laws.FnExactBacklogServed", spec := "fnExactBacklogServed", unfollowed := true, recurses := true, apart := false, narrowed := true }
def FnExactBacklogServedUptoSaid : Prop := fnExactBacklogServedUptoRow.holds Try.pinned (OpenSpec.upto fnExactBacklogServedSpec)

/-- 'laws.FnExactServedBy', WHERE WHAT IT READS IS OF BULK AT MOST 1048576: true; the input reads as it did. -/
def fnExactServedByUptoRow : OpenClaim := { program := "ytoeddkfbhjmbmaa", sum := "3140cc72f24536bedf955cbbbe2fc1e0b4ad942fcf84f8e5898410f1edf29d77", func := "loop.example/g01176/laws.FnExactServedBy", spec := "fnExactServedBy", unfollowed := true, recurses := true, apart := false, narrowed := true }
def FnExactServedByUptoSaid : Prop := fnExactServedByUptoRow.holds Try.pinned (OpenSpec.upto fnExactServedBySpec)

/-- 'laws.FnExactDelayServed', WHERE WHAT IT READS IS OF BULK AT MOST 1048576: true; the input reads as it did. -/
def fnExactDelayServedUptoRow : OpenClaim := { program := "ytoeddkfbhjmbmaa", sum := "3140cc72f24536bedf955cbbbe2fc1e0b4ad942fcf84f8e5898410f1edf29d77", func := "loop.example/g01176/laws.FnExactDelayServed", spec := "fnExactDelayServed", unfollowed := true, recurses := true, apart := false, narrowed := true }
def FnExactDelayServedUptoSaid : Prop := fnExactDelayServedUptoRow.holds Try.pinned (OpenSpec.upto fnExactDelayServedSpec)

/-- 'laws.FnExactGreatestRotation', WHERE WHAT IT READS IS OF BULK AT MOST 1048576: true; the input reads as it did. -/
def fnExactGreatestRotationUptoRow : OpenClaim := { program := "ytoeddkfbhjmbmaa", sum := "3140cc72f24536bedf955cbbbe2fc1e0b4ad942fcf84f8e5898410f1edf29d77", func := "loop.example/g01176/laws.FnExactGreatestRotation", spec := "fnExactGreatestRotation", unfollowed := true, recurses := true, apart := false, narrowed := true }
def FnExactGreatestRotationUptoSaid : Prop := fnExactGreatestRotationUptoRow.holds Try.pinned (OpenSpec.upto fnExactGreatestRotationSpec)

/-- 'laws.FnExactTimedVisits', WHERE WHAT IT READS IS OF BULK AT MOST 1048576: true; the input reads as it did. -/
def fnExactTimedVisitsUptoRow : OpenClaim := { program := "ytoeddkfbhjmbmaa", sum := "3140cc72f24536bedf955cbbbe2fc1e0b4ad942fcf84f8e5898410f1edf29d77", func := "loop.example/g01176/laws.FnExactTimedVisits", spec := "fnExactTimedVisits", unfollowed := true, recurses := true, apart := false, narrowed := true }
def FnExactTimedVisitsUptoSaid : Prop := fnExactTimedVisitsUptoRow.holds Try.pinned (OpenSpec.upto fnExactTimedVisitsSpec)

/-- 'laws.FnExactRotationsOf', WHERE WHAT IT READS IS OF BULK AT MOST 1048576: true; the input reads as it did. -/
def fnExactRotationsOfUptoRow : OpenClaim := { program := "ytoeddkfbhjmbmaa", sum := "3140cc72f24536bedf955cbbbe2fc1e0b4ad942fcf84f8e5898410f1edf29d77", func := "loop.example/g01176/laws.FnExactRotationsOf", spec := "fnExactRotationsOf", unfollowed := true, recurses := true, apart := false, narrowed := true }
def FnExactRotationsOfUptoSaid : Prop := fnExactRotationsOfUptoRow.holds Try.pinned (OpenSpec.upto fnExactRotationsOfSpec)

/-- 'laws.FnTimedRotations', WHERE WHAT IT READS IS OF BULK AT MOST 1048576: true; the input reads as it did. -/
def fnTimedRotationsUptoRow : OpenClaim := { program := "ytoeddkfbhjmbmaa", sum := "3140cc72f24536bedf955cbbbe2fc1e0b4ad942fcf84f8e5898410f1edf29d77", func := "loop.example/g01176/laws.FnTimedRotations", spec := "fnTimedRotations", unfollowed := true, recurses := true, apart := false, narrowed := true }
def FnTimedRotationsUptoSaid : Prop := fnTimedRotationsUptoRow.holds Try.pinned (OpenSpec.upto fnTimedRotationsSpec)

/-- 'laws.FnBoundsHold', WHERE WHAT IT READS IS OF BULK AT MOST 1048576: true; the input reads as it did. -/
def fnBoundsHoldUptoRow : OpenClaim := { program := "ytoeddkfbhjmbmaa", sum := "3140cc72f24536bedf955cbbbe2fc1e0b4ad942fcf84f8e5898410f1edf29d77", func := "loop.example/g01176/laws.FnBoundsHold", spec := "fnBoundsHold", unfollowed := true, recurses := true, apart := false, narrowed := true }
def FnBoundsHoldUptoSaid : Prop := fnBoundsHoldUptoRow.holds Try.pinned (OpenSpec.upto fnBoundsHoldSpec)

end Rows
end Go.Proofs.Ytoeddkfbhjmbmaa
