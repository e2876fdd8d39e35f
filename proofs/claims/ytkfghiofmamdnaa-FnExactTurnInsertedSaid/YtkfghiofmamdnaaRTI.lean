/- The law on TurnInserted holds for all rings, messages and turns; no condition. -/
import Derived.Test.YtkfghiofmamdnaaKit
import Derived.Test.YtkfghiofmamdnaaPureTurn
import Derived.Test.YtkfghiofmamdnaaRowMsg
namespace Go.Proofs.Ytkfghiofmamdnaa.fnExactTurnInserted
set_option linter.unusedVariables false
open Go.ChangeShapes Go.WideShapes Go.ChangeAt Go.RowKit Go.Joins
theorem read : Kit.Readable Try.prog Try.f13.params.toList := by
  rw [Try.params13]
  intro t ht
  simp only [List.mem_cons, List.not_mem_nil, or_false] at ht
  rcases ht with rfl | rfl | rfl <;> exact ⟨by kernel_rfl, of_decide_eq_true (by kernel_rfl)⟩
set_option maxRecDepth 100000 in
theorem calls {H : Type} {enc : TypeId × Value → H} (W : World) (base : Nat) (args : Array Value) (ds : List (DataW H)) (p : List MemPlace)
    (hval : ∀ (j : Nat) t v, Try.f13.params[j]? = some t → args[j]? = some v → Value.okWide Try.prog W .any base t v)
    (hA : DataW.TrodAll enc Try.prog W 0 (fun _ => true) true Try.f13.params.toList args.toList ds p) (hsz : (DataW.weightsEach Try.prog Try.f13.params.toList ds).all (· ≤ reachBytes) = true) :
    Calls Try.prog 13 args W fun e W' => e = .returned (.bool true) ∧ Below W.heap.size W W' := by
  rw [Try.params13] at hA hval hsz
  obtain ⟨v0, vs0, d0, ds0, p0, q0, hargs, rfl, rfl, h0, r0⟩ := trodAll_cons hA
  obtain ⟨v1, vs1, d1, ds1, p1, q1, rfl, rfl, rfl, h1, r1⟩ := trodAll_cons r0
  obtain ⟨v2, vs2, d2, ds2, p2, q2, rfl, rfl, rfl, h2, r2⟩ := trodAll_cons r1
  obtain ⟨rfl, rfl, rfl⟩ := trodAll_nil r2
  obtain rfl : args = #[v0, v1, v2] := by cases args; simp_all
  obtain ⟨cs0, rfl, a0_0, a0_1, a0_2, rfl, w0⟩ := Kit.open_agg Try.underlying23 (Kit.opensR_iib Try.underlying23 (by kernel_rfl) (by kernel_rfl) Try.underlying3 Try.underlying3 Try.underlying4) (hval 0 23 v0 rfl rfl) hsz (j := 0) rfl rfl h0
  obtain ⟨A1, l1, c1, rfl, w1⟩ := Kit.open_lmsg Try.underlying24 (by kernel_rfl) (by kernel_rfl) Try.underlying70 (by kernel_rfl) Try.underlying3 Try.underlying3 Try.underlying3 (hval 1 24 v1 rfl rfl) hsz (j := 1) rfl rfl h1
  obtain ⟨a2, rfl, w2⟩ := Kit.open_i Try.underlying3 (hval 2 3 v2 rfl rfl) h2
  exact Go.Proofs.Ytkfghiofmamdnaa.PA.core_FnExactTurnInserted a0_0 a0_1 a0_2 A1 c1 l1 a2 W w0 w1 w2
set_option maxRecDepth 100000 in
theorem over : Rows.fnExactTurnInsertedRow.holds Try.pinned (OpenSpec.ofChange Rows.fnExactTurnInsertedSpec) :=
  OpenClaim.holds_of_wide 13 Try.f13 rfl rfl rfl rfl rfl rfl rfl ⟨rfl, rfl, rfl, rfl, rfl⟩ rfl rfl rfl rfl rfl (by kernel_rfl) Try.func13 (by kernel_rfl)
    (of_decide_eq_true (by kernel_rfl)) (by unfold Func.isWrapper; first | (rw [if_pos (by decide +kernel)]; kernel_rfl) | (rw [if_neg (by decide +kernel)]; exact ⟨rfl, rfl⟩))
    (fun os started H enc _ => Kit.law_lifted (C := Try.checked) (s := Rows.fnExactTurnInsertedSpec) (rt := 4) Kit.laidOut Kit.own started (by kernel_rfl) Try.func13 rfl
      (fun ds hl => match ds, hl with | [_, _, _], _ => ⟨rfl, rfl, rfl⟩) rfl Try.underlying4 read
      (ChangeSpec.witness6 (enc := enc) (C := Try.checked) false ⟨#[], #[.agg #[.int .i64 0, .int .i64 0, .bool false], .slice none 0 0, .int .i64 0], []⟩ 8 (by kernel_rfl) (by kernel_rfl) (by kernel_rfl) (by kernel_rfl)) calls)
theorem proved : Rows.FnExactTurnInsertedSaid := over
#print axioms proved
end Go.Proofs.Ytkfghiofmamdnaa.fnExactTurnInserted
namespace Go.Proofs.Ytkfghiofmamdnaa
theorem fnExactTurnInserted_holds : Rows.FnExactTurnInsertedSaid := fnExactTurnInserted.proved
end Go.Proofs.Ytkfghiofmamdnaa
