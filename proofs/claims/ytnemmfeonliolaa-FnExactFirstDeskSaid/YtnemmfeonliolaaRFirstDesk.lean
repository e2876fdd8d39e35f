/- The law on FirstDesk: it comes to true at every input; no condition. -/
import Derived.Test.YtnemmfeonliolaaKit
import Derived.Test.YtnemmfeonliolaaPureDesk
namespace Go.Proofs.Ytnemmfeonliolaa.fnExactFirstDesk
set_option linter.unusedVariables false
open Go.ChangeShapes Go.WideShapes Go.ChangeAt Go.RowKit Go.Joins
theorem read : Kit.Readable Try.prog Try.f3.params.toList := by
  rw [Try.params3]
  intro t ht
  simp only [List.not_mem_nil] at ht

set_option maxRecDepth 100000 in
theorem calls {H : Type} {enc : TypeId × Value → H} (W : World) (base : Nat) (args : Array Value) (ds : List (DataW H)) (p : List MemPlace)
    (hval : ∀ (j : Nat) t v, Try.f3.params[j]? = some t → args[j]? = some v → Value.okWide Try.prog W .any base t v)
    (hA : DataW.TrodAll enc Try.prog W 0 (fun _ => true) true Try.f3.params.toList args.toList ds p) (hsz : (DataW.weightsEach Try.prog Try.f3.params.toList ds).all (· ≤ reachBytes) = true) :
    Calls Try.prog 3 args W fun e W' => e = .returned (.bool true) ∧ Below W.heap.size W W' := by
  rw [Try.params3] at hA hval hsz
  obtain ⟨hargs, rfl, rfl⟩ := trodAll_nil hA
  obtain rfl : args = #[] := by cases args; simp_all
  exact Go.Proofs.Ytnemmfeonliolaa.PA.core_FnExactFirstDesk  W 
set_option maxRecDepth 100000 in
theorem over : Rows.fnExactFirstDeskRow.holds Try.pinned (OpenSpec.ofChange Rows.fnExactFirstDeskSpec) :=
  OpenClaim.holds_of_wide 3 Try.f3 rfl rfl rfl rfl rfl rfl rfl ⟨rfl, rfl, rfl, rfl, rfl⟩ rfl rfl rfl rfl rfl (by kernel_rfl) Try.func3 (by kernel_rfl)
    (of_decide_eq_true (by kernel_rfl)) (by unfold Func.isWrapper; first | (rw [if_pos (by decide +kernel)]; kernel_rfl) | (rw [if_neg (by decide +kernel)]; exact ⟨rfl, rfl⟩))
    (fun os started H enc _ => Kit.law_lifted (C := Try.checked) (s := Rows.fnExactFirstDeskSpec) (rt := 4) Kit.laidOut Kit.own started (by kernel_rfl) Try.func3 rfl
      (fun ds hl => match ds, hl with | [], _ => ⟨rfl, rfl, rfl⟩) rfl Try.underlying4 read
      (ChangeSpec.witness6 (enc := enc) (C := Try.checked) false ⟨#[], #[], []⟩ 8 (by kernel_rfl) (by kernel_rfl) (by kernel_rfl) (by kernel_rfl)) calls)
theorem proved : Rows.FnExactFirstDeskSaid := over
#print axioms proved
end Go.Proofs.Ytnemmfeonliolaa.fnExactFirstDesk
namespace Go.Proofs.Ytnemmfeonliolaa
theorem fnExactFirstDesk_holds : Rows.FnExactFirstDeskSaid := fnExactFirstDesk.proved
end Go.Proofs.Ytnemmfeonliolaa
