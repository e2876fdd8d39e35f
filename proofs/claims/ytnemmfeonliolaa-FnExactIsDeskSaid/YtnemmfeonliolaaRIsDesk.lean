/- The law on IsDesk: it comes to true at every input; no condition. -/
import Derived.Test.YtnemmfeonliolaaKit
import Derived.Test.YtnemmfeonliolaaPureDesk
namespace Go.Proofs.Ytnemmfeonliolaa.fnExactIsDesk
set_option linter.unusedVariables false
open Go.ChangeShapes Go.WideShapes Go.ChangeAt Go.RowKit Go.Joins
theorem read : Kit.Readable Try.prog Try.f4.params.toList := by
  rw [Try.params4]
  intro t ht
  simp only [List.mem_cons, List.not_mem_nil, or_false] at ht
  obtain rfl := ht
  exact ⟨by kernel_rfl, of_decide_eq_true (by kernel_rfl)⟩
set_option maxRecDepth 100000 in
theorem calls {H : Type} {enc : TypeId × Value → H} (W : World) (base : Nat) (args : Array Value) (ds : List (DataW H)) (p : List MemPlace)
    (hval : ∀ (j : Nat) t v, Try.f4.params[j]? = some t → args[j]? = some v → Value.okWide Try.prog W .any base t v)
    (hA : DataW.TrodAll enc Try.prog W 0 (fun _ => true) true Try.f4.params.toList args.toList ds p) (hsz : (DataW.weightsEach Try.prog Try.f4.params.toList ds).all (· ≤ reachBytes) = true) :
    Calls Try.prog 4 args W fun e W' => e = .returned (.bool true) ∧ Below W.heap.size W W' := by
  rw [Try.params4] at hA hval hsz
  obtain ⟨v0, vs0, d0, ds0, p0, q0, hargs, rfl, rfl, h0, r0⟩ := trodAll_cons hA
  obtain ⟨rfl, rfl, rfl⟩ := trodAll_nil r0
  obtain rfl : args = #[v0] := by cases args; simp_all
  obtain ⟨cs0, rfl, n0, A0, l0, c0, a0_0, a0_1, a0_2, B0, m0, e0, rfl, w0⟩ := Kit.open_agg Try.underlying36 (Kit.opensR_desk Try.underlying36 (by kernel_rfl) rfl (by kernel_rfl) rfl (by kernel_rfl) Try.underlying33 (by kernel_rfl) Try.underlying34 (by kernel_rfl) Try.underlying3 Try.underlying22 Try.underlying3 Try.underlying3 Try.underlying3 Try.underlying22 Try.underlying3 (by kernel_rfl) (by kernel_rfl)) (hval 0 36 v0 rfl rfl) hsz (j := 0) rfl rfl h0
  exact Go.Proofs.Ytnemmfeonliolaa.PA.core_FnExactIsDesk n0 A0 l0 c0 a0_0 a0_1 a0_2 B0 m0 e0 W w0
set_option maxRecDepth 100000 in
theorem over : Rows.fnExactIsDeskRow.holds Try.pinned (OpenSpec.ofChange Rows.fnExactIsDeskSpec) :=
  OpenClaim.holds_of_wide 4 Try.f4 rfl rfl rfl rfl rfl rfl rfl ⟨rfl, rfl, rfl, rfl, rfl⟩ rfl rfl rfl rfl rfl (by kernel_rfl) Try.func4 (by kernel_rfl)
    (of_decide_eq_true (by kernel_rfl)) (by unfold Func.isWrapper; first | (rw [if_pos (by decide +kernel)]; kernel_rfl) | (rw [if_neg (by decide +kernel)]; exact ⟨rfl, rfl⟩))
    (fun os started H enc _ => Kit.law_lifted (C := Try.checked) (s := Rows.fnExactIsDeskSpec) (rt := 4) Kit.laidOut Kit.own started (by kernel_rfl) Try.func4 rfl
      (fun ds hl => match ds, hl with | [_], _ => ⟨rfl, rfl, rfl⟩) rfl Try.underlying4 read
      (ChangeSpec.witness6 (enc := enc) (C := Try.checked) false ⟨#[], #[.agg #[.int .i64 0, .slice none 0 0, .int .i64 0, .int .i64 0, .int .i64 0, .slice none 0 0]], []⟩ 8 (by kernel_rfl) (by kernel_rfl) (by kernel_rfl) (by kernel_rfl)) calls)
theorem proved : Rows.FnExactIsDeskSaid := over
#print axioms proved
end Go.Proofs.Ytnemmfeonliolaa.fnExactIsDesk
namespace Go.Proofs.Ytnemmfeonliolaa
theorem fnExactIsDesk_holds : Rows.FnExactIsDeskSaid := fnExactIsDesk.proved
end Go.Proofs.Ytnemmfeonliolaa
