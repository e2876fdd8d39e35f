/- Messages on a slot ring fill free slots in their order, are read as many ticks later as they have hops, and all by the bound: the law holds for all bytes. -/
import Derived.Test.YteeejellpcikkaaRows
import Derived.Test.YteeejellpcikkaaG5N12
import Derived.Test.YteeejellpcikkaaG5K
namespace Go.Proofs.Yteeejellpcikkaa.fnSlotsGoRound
set_option linter.unusedVariables false
open Go Go.ChangeShapes Go.WideShapes Go.ChangeAt Go.RowKit Go.Joins
theorem read : Go.Proofs.Yteeejellpcikkaa.Ev.Readable Try.prog Try.f4.params.toList := by
  rw [Try.params4]
  intro t ht
  simp only [List.mem_cons, List.not_mem_nil, or_false] at ht
  rcases ht with rfl | rfl <;> exact ⟨by kernel_rfl, of_decide_eq_true (by kernel_rfl)⟩
set_option maxRecDepth 100000 in
theorem calls {H : Type} {enc : TypeId × Value → H} (W : World) (base : Nat) (args : Array Value) (ds : List (DataW H)) (p : List MemPlace)
    (hval : ∀ (j : Nat) t v, Try.f4.params[j]? = some t → args[j]? = some v → Value.okWide Try.prog W .any base t v)
    (hA : DataW.TrodAll enc Try.prog W 0 (fun _ => true) true Try.f4.params.toList args.toList ds p) (hsz : (DataW.weightsEach Try.prog Try.f4.params.toList ds).all (· ≤ reachBytes) = true) :
    Calls Try.prog 4 args W fun e W' => e = .returned (.bool true) ∧ Below W.heap.size W W' := by
  rw [Try.params4] at hA hval hsz
  obtain ⟨v0, vs0, d0, ds0, p0, q0, hargs, rfl, rfl, h0, r0⟩ := trodAll_cons hA
  obtain ⟨v1, vs1, d1, ds1, p1, q1, rfl, rfl, rfl, h1, r1⟩ := trodAll_cons r0
  obtain ⟨rfl, rfl, rfl⟩ := trodAll_nil r1
  obtain rfl : args = #[v0, v1] := by cases args; simp_all
  obtain ⟨l0, w0, b0⟩ := Go.Proofs.Yteeejellpcikkaa.Ev.open_bytes Try.underlying22 Try.underlying5 (by kernel_rfl) (hval 0 22 v0 rfl rfl) h0
  obtain ⟨l1, w1, b1⟩ := Go.Proofs.Yteeejellpcikkaa.Ev.open_bytes Try.underlying22 Try.underlying5 (by kernel_rfl) (hval 1 22 v1 rfl rfl) h1
  exact Go.Proofs.Yteeejellpcikkaa.Ev.law_calls2 Go.Proofs.Yteeejellpcikkaa.Ev.G5.right (Go.Proofs.Yteeejellpcikkaa.Ev.G5.laws_FnSlotsGoRound_ok (Go.Proofs.Yteeejellpcikkaa.Ev.G5.core_FnSlotsGoRound l0 l1 b0 b1)) w0 w1
set_option maxRecDepth 100000 in
theorem over : Rows.fnSlotsGoRoundRow.holds Try.pinned (OpenSpec.ofChange Rows.fnSlotsGoRoundSpec) :=
  OpenClaim.holds_of_wide 4 Try.f4 rfl rfl rfl rfl rfl rfl rfl ⟨rfl, rfl, rfl, rfl, rfl⟩ rfl rfl rfl rfl rfl (by kernel_rfl) Try.func4 (by kernel_rfl)
    (of_decide_eq_true (by kernel_rfl)) (by unfold Func.isWrapper; first | (rw [if_pos (by decide +kernel)]; kernel_rfl) | (rw [if_neg (by decide +kernel)]; exact ⟨rfl, rfl⟩))
    (fun os started H enc _ => Go.Proofs.Yteeejellpcikkaa.Ev.law_lifted (C := Try.checked) (s := Rows.fnSlotsGoRoundSpec) (rt := 4) (by kernel_rfl) (by kernel_rfl) started (by kernel_rfl) Try.func4 rfl
      (fun ds hl => match ds, hl with | [_, _], _ => ⟨rfl, rfl, rfl⟩) rfl Try.underlying4 read
      (ChangeSpec.witness6 (enc := enc) (C := Try.checked) false ⟨#[], #[.slice none 0 0, .slice none 0 0], []⟩ 8 (by kernel_rfl) (by kernel_rfl) (by kernel_rfl) (by kernel_rfl)) calls)
theorem proved : Rows.FnSlotsGoRoundSaid := over
#print axioms proved
end Go.Proofs.Yteeejellpcikkaa.fnSlotsGoRound
namespace Go.Proofs.Yteeejellpcikkaa
theorem fnSlotsGoRound_holds : Rows.FnSlotsGoRoundSaid := fnSlotsGoRound.proved
end Go.Proofs.Yteeejellpcikkaa
