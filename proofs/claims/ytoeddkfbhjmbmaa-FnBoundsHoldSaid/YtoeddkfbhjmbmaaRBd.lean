/- The law on bounds comes to true for all bytes; the bytes are no more than memory lets them be. -/
import Derived.Test.YtoeddkfbhjmbmaaKit
import Derived.Test.YtoeddkfbhjmbmaaCoreBd
namespace Go.Proofs.Ytoeddkfbhjmbmaa.fnBoundsHold
set_option linter.unusedVariables false
open Go.ChangeShapes Go.WideShapes Go.ChangeAt Go.RowKit Go.Joins
theorem read : Kit.Readable Try.prog Try.f13.params.toList := by
  rw [Try.params13]
  intro t ht
  simp only [List.mem_cons, List.not_mem_nil, or_false] at ht
  rcases ht with rfl | rfl <;> exact ⟨by kernel_rfl, of_decide_eq_true (by kernel_rfl)⟩
set_option maxRecDepth 100000 in
theorem calls {H : Type} {enc : TypeId × Value → H} (W : World) (base : Nat) (args : Array Value) (ds : List (DataW H)) (p : List MemPlace)
    (hval : ∀ (j : Nat) t v, Try.f13.params[j]? = some t → args[j]? = some v → Value.okWide Try.prog W .any base t v)
    (hA : DataW.TrodAll enc Try.prog W 0 (fun _ => true) true Try.f13.params.toList args.toList ds p) (hsz : (DataW.weightsEach Try.prog Try.f13.params.toList ds).all (· ≤ reachBytes) = true) :
    Calls Try.prog 13 args W fun e W' => e = .returned (.bool true) ∧ Below W.heap.size W W' := by
  rw [Try.params13] at hA hval hsz
  obtain ⟨v0, vs0, d0, ds0, p0, q0, hargs, rfl, rfl, h0, r0⟩ := trodAll_cons hA
  obtain ⟨v1, vs1, d1, ds1, p1, q1, rfl, rfl, rfl, h1, r1⟩ := trodAll_cons r0
  obtain ⟨rfl, rfl, rfl⟩ := trodAll_nil r1
  obtain rfl : args = #[v0, v1] := by cases args; simp_all
  obtain ⟨A0, l0, c0, rfl, w0⟩ := Kit.open_lu Try.underlying55 Try.underlying5 (by kernel_rfl) (by kernel_rfl) (hval 0 55 v0 rfl rfl) hsz (j := 0) rfl rfl h0
  obtain ⟨A1, l1, c1, rfl, w1⟩ := Kit.open_lu Try.underlying55 Try.underlying5 (by kernel_rfl) (by kernel_rfl) (hval 1 55 v1 rfl rfl) hsz (j := 1) rfl rfl h1
  exact Go.Proofs.Ytoeddkfbhjmbmaa.PB.Bd.core_FnBoundsHold A0 c0 l0 A1 c1 l1 W w0 w1
set_option maxRecDepth 100000 in
theorem over : Rows.fnBoundsHoldRow.holds Try.pinned (OpenSpec.ofChange Rows.fnBoundsHoldSpec) :=
  OpenClaim.holds_of_wide 13 Try.f13 rfl rfl rfl rfl rfl rfl rfl ⟨rfl, rfl, rfl, rfl, rfl⟩ rfl rfl rfl rfl rfl (by kernel_rfl) Try.func13 (by kernel_rfl)
    (of_decide_eq_true (by kernel_rfl)) (by unfold Func.isWrapper; first | (rw [if_pos (by decide +kernel)]; kernel_rfl) | (rw [if_neg (by decide +kernel)]; exact ⟨rfl, rfl⟩))
    (fun os started H enc _ => Kit.law_lifted (C := Try.checked) (s := Rows.fnBoundsHoldSpec) (rt := 4) Kit.laidOut Kit.own started (by kernel_rfl) Try.func13 rfl
      (fun ds hl => match ds, hl with | [_, _], _ => ⟨rfl, rfl, rfl⟩) rfl Try.underlying4 read
      (ChangeSpec.witness6 (enc := enc) (C := Try.checked) false ⟨#[], #[.slice none 0 0, .slice none 0 0], []⟩ 8 (by kernel_rfl) (by kernel_rfl) (by kernel_rfl) (by kernel_rfl)) calls)
theorem proved : Rows.FnBoundsHoldSaid := over
#print axioms proved
end Go.Proofs.Ytoeddkfbhjmbmaa.fnBoundsHold
namespace Go.Proofs.Ytoeddkfbhjmbmaa
theorem fnBoundsHold_holds : Rows.FnBoundsHoldSaid := fnBoundsHold.proved
end Go.Proofs.Ytoeddkfbhjmbmaa
