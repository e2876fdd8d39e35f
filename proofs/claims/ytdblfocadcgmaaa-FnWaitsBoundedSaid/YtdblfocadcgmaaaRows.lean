/-
  No cell of these rows narrows 'for every input' (looked for: loops, veiled, ifaces, maps, wideKeys, modest, calm, conditions, laid).
  DERIVED. THE GIVEN ROWS OF THIS SEAT. 2 by the template 'for every input the law returns true; each argument reads behind the call as it read before'; 0 by the template 'total and deterministic' (their statements: YtdblfocadcgmaaaTotals.lean).
  GIVEN WITH THE SEED: the statements are not yours to turn. If you find one false, say at which input.
  Laid BY PROGRAM, IN A SANDBOX (cutbox-rows.mjs): the forced cells as the released guide's own fill.sh prints them over the translation af36c82a3834fe8b… (all of the seat's roots in one cut). By AI agents, Wed Nov 11 2026. No macro, syntax, notation, axiom, sorry.
-/
import Derived.Test.YtdblfocadcgmaaaChecked
import GoSem.Claim
import GoSem.ClaimJoined
import GoSem.ClaimMapViews
import Derived.JoinedTies
import Derived.KernelRfl
namespace Go.Proofs.Ytdblfocadcgmaaa
/- THE CELL 'sum', in the pinned program and in every row, IS THE sha256 OF THE DUMP (.gsa) THAT YtdblfocadcgmaaaProg.lean LOADS. Nothing in Lean hashes anything: it is a label: what it is worth is what the hold of that sum in a sandbox is worth. -/
noncomputable def Try.pinned : Pinned := { name := "ytdblfocadcgmaaa", sum := "af36c82a3834fe8b573a0f9e4349ba037a0d7a2886ff6bfeee239d4e632e1d71", checked := Try.checked }
namespace Rows
def none {H : Type} : Left H := { results := [], args := [] }

/-- 'laws.FnWaitsBounded': WHATEVER THE INPUT: true; the input reads as it did. -/
def fnWaitsBoundedSpec : ChangeSpec := { name := "fnWaitsBounded", fn := fun _ => fun
  | [d1, d2] => { results := [.lit (.bool true)], args := [d1, d2] }
  | _ => none }
def fnWaitsBoundedRow : OpenClaim := { program := "ytdblfocadcgmaaa", sum := "af36c82a3834fe8b573a0f9e4349ba037a0d7a2886ff6bfeee239d4e632e1d71", func := "loop.example/g01176/laws.FnWaitsBounded", spec := "fnWaitsBounded", unfollowed := true, recurses := true, apart := false }
def FnWaitsBoundedSaid : Prop := fnWaitsBoundedRow.holds Try.pinned (OpenSpec.ofChange fnWaitsBoundedSpec)

/-- ITS FALSE NEIGHBOUR: 'it returns false'. Refute it at one input. -/
def fnWaitsBoundedWrong : ChangeSpec := { name := "fnWaitsBounded", fn := fun _ => fun
  | [d1, d2] => { results := [.lit (.bool false)], args := [d1, d2] }
  | _ => none }
def FnWaitsBoundedWrongFalsely : Prop := fnWaitsBoundedRow.holds Try.pinned (OpenSpec.ofChange fnWaitsBoundedWrong)

/-- 'laws.FnTokensGoRound': WHATEVER THE INPUT: true; the input reads as it did. -/
def fnTokensGoRoundSpec : ChangeSpec := { name := "fnTokensGoRound", fn := fun _ => fun
  | [d1, d2] => { results := [.lit (.bool true)], args := [d1, d2] }
  | _ => none }
def fnTokensGoRoundRow : OpenClaim := { program := "ytdblfocadcgmaaa", sum := "af36c82a3834fe8b573a0f9e4349ba037a0d7a2886ff6bfeee239d4e632e1d71", func := "loop.example/g01176/laws.FnTokensGoRound", spec := "fnTokensGoRound", unfollowed := true, recurses := true, apart := false }
def FnTokensGoRoundSaid : Prop := fnTokensGoRoundRow.holds Try.pinned (OpenSpec.ofChange fnTokensGoRoundSpec)

/-- ITS FALSE NEIGHBOUR: 'it returns false'. Refute it at one input. -/
def fnTokensGoRoundWrong : ChangeSpec := { name := "fnTokensGoRound", fn := fun _ => fun
  | [d1, d2] => { results := [.lit (.bool false)], args := [d1, d2] }
  | _ => none }
def FnTokensGoRoundWrongFalsely : Prop := fnTokensGoRoundRow.holds Try.pinned (OpenSpec.ofChange fnTokensGoRoundWrong)

/- THE SECOND FORM. 'bulk': how many values and letters a reading holds, each counted each time it is reached (what is shared counts as often as it is met; a slice's spare places count too). A statement '..UptoSaid' is the law's where the arguments, and the package variables that the reading takes, are together of bulk at most 1048576: NARROWER than '..Said'. Prove '..Said' where nothing that the law and all that it calls make is longer than what came in: it says more and counts as full. Else prove '..UptoSaid'. A law counts once. -/
mutual
def uptoBulk {H : Type} : DataW H → Nat
  | .lit (.string bytes) => bytes.length + 1
  | .lit _ => 1
  | .nil => 1
  | .ptr d => uptoBulk d + 1
  | .slice elems spare => uptoBulkAll elems + uptoBulkAll spare + 1
  | .agg parts => uptoBulkAll parts + 1
  | .iface _ d => uptoBulk d + 1
  | .map entries => uptoBulkEntries entries + 1
  | .held _ => 1
def uptoBulkAll {H : Type} : List (DataW H) → Nat
  | [] => 0
  | d :: r => uptoBulk d + uptoBulkAll r
def uptoBulkEntries {H : Type} : List (Lit × DataW H) → Nat
  | [] => 0
  | x :: r => uptoBulkEntry x + uptoBulkEntries r
def uptoBulkEntry {H : Type} : Lit × DataW H → Nat
  | (.string bytes, d) => bytes.length + uptoBulk d + 1
  | (_, d) => uptoBulk d + 1
 end
def uptoSmall : (H : Type) → List (DataW H) → Bool := fun _ ds => decide (uptoBulkAll ds ≤ 1048576)
def OpenSpec.upto (s : _root_.Go.ChangeSpec) : _root_.Go.OpenSpec := { _root_.Go.OpenSpec.ofChange s with cond := some uptoSmall }

/-- 'laws.FnWaitsBounded', WHERE WHAT IT READS IS OF BULK AT MOST 1048576: true; the input reads as it did. -/
def fnWaitsBoundedUptoRow : OpenClaim := { program := "ytdblfocadcgmaaa", sum := "af36c82a3834fe8b573a0f9e4349ba037a0d7a2886ff6bfeee239d4e632e1d71", func := "loop.example/g01176/laws.FnWaitsBounded", spec := "fnWaitsBounded", unfollowed := true, recurses := true, apart := false, narrowed := true }
def FnWaitsBoundedUptoSaid : Prop := fnWaitsBoundedUptoRow.holds Try.pinned (OpenSpec.upto fnWaitsBoundedSpec)

/-- 'laws.FnTokensGoRound', WHERE WHAT IT READS IS OF BULK AT MOST 1048576: true; the input reads as it did. -/
def fnTokensGoRoundUptoRow : OpenClaim := { program := "ytdblfocadcgmaaa", sum := "af36c82a3834fe8b573a0f9e4349ba037a0d7a2886ff6bfeee239d4e632e1d71", func := "loop.example/g01176/laws.FnTokensGoRound", spec := "fnTokensGoRound", unfollowed := true, recurses := true, apart := false, narrowed := true }
def FnTokensGoRoundUptoSaid : Prop := fnTokensGoRoundUptoRow.holds Try.pinned (OpenSpec.upto fnTokensGoRoundSpec)

end Rows
end Go.Proofs.Ytdblfocadcgmaaa
