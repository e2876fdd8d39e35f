/- The law on InRow comes to true; no condition. -/
import Derived.Below
import Derived.Test.YtidoghpbeilipaaBase
import Derived.Test.YtidoghpbeilipaaPA5
namespace Go.Proofs.Ytidoghpbeilipaa.PA
open Go.RowKit Go.Proofs.YtidoghpbeilipaaW.PrintWords Go.Proofs.YtidoghpbeilipaaW.PrintLast Go.Proofs.YtidoghpbeilipaaW.PrintMore
theorem least_tells (a b : Int) : spec_l1Least.f a b = some (mn a b) := by
  unfold spec_l1Least.f mn
  split <;> split <;> first | rfl | (congr 1; omega)

theorem inRow_pure (a b c d : Int) : ∃ k, laws_FnExactInRow.f k a b c d = some true := by
  refine ⟨1, ?_⟩
  have e : impl_InRow.f 1 a b c d = spec_InRow.f 1 a b c d := by
    simp only [impl_InRow.f, spec_InRow.f, impl_InRow.j0, spec_InRow.j0, server_same, least_tells, Option.bind_some]
  have z : ∃ r, spec_InRow.f 1 a b c d = some r := by
    simp only [spec_InRow.f, spec_InRow.j0, server_tells, least_tells, Option.bind_some]
    cases serverB a b <;> cases serverB c d <;> cases serverB (mn a c) (wrap64 (b + d)) <;> exact ⟨_, rfl⟩
  obtain ⟨r, hr⟩ := z
  simp [laws_FnExactInRow.f, laws_toServer.f, e, hr, laws_eqServer.f]


theorem core_FnExactInRow (a b c d : Int) (W : World) (_ : (Lit.int .i64 a).wf = true ∧ (Lit.int .i64 b).wf = true) (_ : (Lit.int .i64 c).wf = true ∧ (Lit.int .i64 d).wf = true) :
    Calls Try.prog 5 #[.agg #[.int .i64 a, .int .i64 b], .agg #[.int .i64 c, .int .i64 d]] W fun e W' => e = .returned (.bool true) ∧ Below W.heap.size W W' := by
  obtain ⟨k, hk⟩ := inRow_pure a b c d
  exact laws_FnExactInRow.calls k a b c d W hk
end Go.Proofs.Ytidoghpbeilipaa.PA
