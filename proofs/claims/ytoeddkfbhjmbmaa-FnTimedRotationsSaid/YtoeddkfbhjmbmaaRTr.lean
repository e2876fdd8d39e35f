/- The law on rotations of timed rings comes to true for all bytes; no condition. -/
import Derived.Test.YtoeddkfbhjmbmaaRows
import Derived.Test.YtoeddkfbhjmbmaaQ2M7
import Derived.Test.YtoeddkfbhjmbmaaQ2K
namespace Go.Proofs.Ytoeddkfbhjmbmaa.fnTimedRotations
set_option linter.unusedVariables false
open Go Go.ChangeShapes Go.WideShapes Go.ChangeAt Go.RowKit Go.Joins
theorem read : Go.Proofs.Ytoeddkfbhjmbmaa.Ev.Readable Try.prog Try.f12.params.toList := by
  rw [Try.params12]
  intro t ht
  simp only [List.mem_cons, List.not_mem_nil, or_false] at ht
  rcases ht with rfl | rfl <;> exact ⟨by kernel_rfl, of_decide_eq_true (by kernel_rfl)⟩
set_option maxRecDepth 100000 in
theorem calls {H : Type} {enc : TypeId × Value → H} (W : World) (base : Nat) (args : Array Value) (ds : List (DataW H)) (p : List MemPlace)
    (hval : ∀ (j : Nat) t v, Try.f12.params[j]? = some t → args[j]? = some v → Value.okWide Try.prog W .any base t v)
    (hA : DataW.TrodAll enc Try.prog W 0 (fun _ => true) true Try.f12.params.toList args.toList ds p) (hsz : (DataW.weightsEach Try.prog Try.f12.params.toList ds).all (· ≤ reachBytes) = true) :
    Calls Try.prog 12 args W fun e W' => e = .returned (.bool true) ∧ Below W.heap.size W W' := by
  rw [Try.params12] at hA hval hsz
  obtain ⟨v0, vs0, d0, ds0, p0, q0, hargs, rfl, rfl, h0, r0⟩ := trodAll_cons hA
  obtain ⟨v1, vs1, d1, ds1, p1, q1, rfl, rfl, rfl, h1, r1⟩ := trodAll_cons r0
  obtain ⟨rfl, rfl, rfl⟩ := trodAll_nil r1
  obtain rfl : args = #[v0, v1] := by cases args; simp_all
  obtain ⟨l0, w0, b0⟩ := Go.Proofs.Ytoeddkfbhjmbmaa.Ev.open_bytes Try.underlying55 Try.underlying5 (by kernel_rfl) (hval 0 55 v0 rfl rfl) h0
  obtain ⟨l1, w1, b1⟩ := Go.Proofs.Ytoeddkfbhjmbmaa.Ev.open_bytes Try.underlying55 Try.underlying5 (by kernel_rfl) (hval 1 55 v1 rfl rfl) h1
  exact Go.Proofs.Ytoeddkfbhjmbmaa.Ev.law_calls2 Go.Proofs.Ytoeddkfbhjmbmaa.Ev.Q2.right (Go.Proofs.Ytoeddkfbhjmbmaa.Ev.Q2.laws_FnTimedRotations_ok (Go.Proofs.Ytoeddkfbhjmbmaa.Ev.Q2.Tr.rotations_law l0 l1 b0 b1)) w0 w1
set_option maxRecDepth 100000 in
theorem over : Rows.fnTimedRotationsRow.holds Try.pinned (OpenSpec.ofChange Rows.fnTimedRotationsSpec) :=
  OpenClaim.holds_of_wide 12 Try.f12 rfl rfl rfl rfl rfl rfl rfl ⟨rfl, rfl, rfl, rfl, rfl⟩ rfl rfl rfl rfl rfl (by kernel_rfl) Try.func12 (by kernel_rfl)
    (of_decide_eq_true (by kernel_rfl)) (by unfold Func.isWrapper; first | (rw [if_pos (by decide +kernel)]; kernel_rfl) | (rw [if_neg (by decide +kernel)]; exact ⟨rfl, rfl⟩))
    (fun os started H enc _ => Go.Proofs.Ytoeddkfbhjmbmaa.Ev.law_lifted (C := Try.checked) (s := Rows.fnTimedRotationsSpec) (rt := 4) (by kernel_rfl) (by kernel_rfl) started (by kernel_rfl) Try.func12 rfl
      (fun ds hl => match ds, hl with | [_, _], _ => ⟨rfl, rfl, rfl⟩) rfl Try.underlying4 read
      (ChangeSpec.witness6 (enc := enc) (C := Try.checked) false ⟨#[], #[.slice none 0 0, .slice none 0 0], []⟩ 8 (by kernel_rfl) (by kernel_rfl) (by kernel_rfl) (by kernel_rfl)) calls)
theorem proved : Rows.FnTimedRotationsSaid := over
#print axioms proved
end Go.Proofs.Ytoeddkfbhjmbmaa.fnTimedRotations
namespace Go.Proofs.Ytoeddkfbhjmbmaa
theorem fnTimedRotations_holds : Rows.FnTimedRotationsSaid := fnTimedRotations.proved
end Go.Proofs.Ytoeddkfbhjmbmaa
