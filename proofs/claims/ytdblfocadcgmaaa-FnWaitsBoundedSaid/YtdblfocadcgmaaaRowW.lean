/- No frame waits longer than its bound, and stations whose queues are full send alike: the law holds for all bytes. -/
import Derived.Test.YtdblfocadcgmaaaRows
import Derived.Test.YtdblfocadcgmaaaW7M9
import Derived.Test.YtdblfocadcgmaaaW7K
namespace Go.Proofs.Ytdblfocadcgmaaa.fnWaitsBounded
set_option linter.unusedVariables false
open Go Go.ChangeShapes Go.WideShapes Go.ChangeAt Go.RowKit Go.Joins
theorem read : Go.Proofs.Ytdblfocadcgmaaa.Ev.Readable Try.prog Try.f3.params.toList := by
  rw [Try.params3]
  intro t ht
  simp only [List.mem_cons, List.not_mem_nil, or_false] at ht
  rcases ht with rfl | rfl <;> exact ⟨by kernel_rfl, of_decide_eq_true (by kernel_rfl)⟩
set_option maxRecDepth 100000 in
theorem calls {H : Type} {enc : TypeId × Value → H} (W : World) (base : Nat) (args : Array Value) (ds : List (DataW H)) (p : List MemPlace)
    (hval : ∀ (j : Nat) t v, Try.f3.params[j]? = some t → args[j]? = some v → Value.okWide Try.prog W .any base t v)
    (hA : DataW.TrodAll enc Try.prog W 0 (fun _ => true) true Try.f3.params.toList args.toList ds p) (hsz : (DataW.weightsEach Try.prog Try.f3.params.toList ds).all (· ≤ reachBytes) = true) :
    Calls Try.prog 3 args W fun e W' => e = .returned (.bool true) ∧ Below W.heap.size W W' := by
  rw [Try.params3] at hA hval hsz
  obtain ⟨v0, vs0, d0, ds0, p0, q0, hargs, rfl, rfl, h0, r0⟩ := trodAll_cons hA
  obtain ⟨v1, vs1, d1, ds1, p1, q1, rfl, rfl, rfl, h1, r1⟩ := trodAll_cons r0
  obtain ⟨rfl, rfl, rfl⟩ := trodAll_nil r1
  obtain rfl : args = #[v0, v1] := by cases args; simp_all
  obtain ⟨l0, w0, b0⟩ := Go.Proofs.Ytdblfocadcgmaaa.Ev.open_bytes Try.underlying22 Try.underlying5 (by kernel_rfl) (hval 0 22 v0 rfl rfl) h0
  obtain ⟨l1, w1, b1⟩ := Go.Proofs.Ytdblfocadcgmaaa.Ev.open_bytes Try.underlying22 Try.underlying5 (by kernel_rfl) (hval 1 22 v1 rfl rfl) h1
  exact Go.Proofs.Ytdblfocadcgmaaa.Ev.law_calls2 Go.Proofs.Ytdblfocadcgmaaa.Ev.W7.right (Go.Proofs.Ytdblfocadcgmaaa.Ev.W7.laws_FnWaitsBounded_ok (Go.Proofs.Ytdblfocadcgmaaa.Ev.W7.core_FnWaitsBounded l0 l1 b0 b1)) w0 w1
set_option maxRecDepth 100000 in
theorem over : Rows.fnWaitsBoundedRow.holds Try.pinned (OpenSpec.ofChange Rows.fnWaitsBoundedSpec) :=
  OpenClaim.holds_of_wide 3 Try.f3 rfl rfl rfl rfl rfl rfl rfl ⟨rfl, rfl, rfl, rfl, rfl⟩ rfl rfl rfl rfl rfl (by kernel_rfl) Try.func3 (by kernel_rfl)
    (of_decide_eq_true (by kernel_rfl)) (by unfold Func.isWrapper; first | (rw [if_pos (by decide +kernel)]; kernel_rfl) | (rw [if_neg (by decide +kernel)]; exact ⟨rfl, rfl⟩))
    (fun os started H enc _ => Go.Proofs.Ytdblfocadcgmaaa.Ev.law_lifted (C := Try.checked) (s := Rows.fnWaitsBoundedSpec) (rt := 4) (by kernel_rfl) (by kernel_rfl) started (by kernel_rfl) Try.func3 rfl
      (fun ds hl => match ds, hl with | [_, _], _ => ⟨rfl, rfl, rfl⟩) rfl Try.underlying4 read
      (ChangeSpec.witness6 (enc := enc) (C := Try.checked) false ⟨#[], #[.slice none 0 0, .slice none 0 0], []⟩ 8 (by kernel_rfl) (by kernel_rfl) (by kernel_rfl) (by kernel_rfl)) calls)
theorem proved : Rows.FnWaitsBoundedSaid := over
#print axioms proved
end Go.Proofs.Ytdblfocadcgmaaa.fnWaitsBounded
namespace Go.Proofs.Ytdblfocadcgmaaa
theorem fnWaitsBounded_holds : Rows.FnWaitsBoundedSaid := fnWaitsBounded.proved
end Go.Proofs.Ytdblfocadcgmaaa
