/- The laws on BacklogBound and DelayBound come to true; no condition. -/
import Derived.Below
import Derived.Test.YtidoghpbeilipaaBase
import Derived.Test.YtidoghpbeilipaaPA1
import Derived.Test.YtidoghpbeilipaaPA2
namespace Go.Proofs.Ytidoghpbeilipaa.PA
open Go.RowKit Go.Proofs.YtidoghpbeilipaaW.PrintWords Go.Proofs.YtidoghpbeilipaaW.PrintLast Go.Proofs.YtidoghpbeilipaaW.PrintMore
theorem backlog_pure (a b c d : Int) : laws_FnExactBacklogBound.f a b c d = some true := by
  simp only [laws_FnExactBacklogBound.f, laws_toServer.f, laws_toBucket.f, spec_BacklogBound.f, impl_BacklogBound.f, fits_tells, bounded_tells, Option.bind_some]
  cases fitsB a b c d <;> simp

theorem delay_pure (a b c d : Int) : laws_FnExactDelayBound.f a b c d = some true := by
  simp only [laws_FnExactDelayBound.f, laws_toServer.f, laws_toBucket.f, spec_DelayBound.f, impl_DelayBound.f, fits_tells, bounded_tells, Option.bind_some]
  cases h : fitsB a b c d
  · simp
  · have := fits_of h
    simp [show ¬ a = 0 by omega]


theorem core_FnExactBacklogBound (a b c d : Int) (W : World) (_ : (Lit.int .i64 a).wf = true ∧ (Lit.int .i64 b).wf = true) (_ : (Lit.int .i64 c).wf = true ∧ (Lit.int .i64 d).wf = true) :
    Calls Try.prog 3 #[.agg #[.int .i64 a, .int .i64 b], .agg #[.int .i64 c, .int .i64 d]] W fun e W' => e = .returned (.bool true) ∧ Below W.heap.size W W' := by
  exact laws_FnExactBacklogBound.calls a b c d W (backlog_pure a b c d)

theorem core_FnExactDelayBound (a b c d : Int) (W : World) (_ : (Lit.int .i64 a).wf = true ∧ (Lit.int .i64 b).wf = true) (_ : (Lit.int .i64 c).wf = true ∧ (Lit.int .i64 d).wf = true) :
    Calls Try.prog 4 #[.agg #[.int .i64 a, .int .i64 b], .agg #[.int .i64 c, .int .i64 d]] W fun e W' => e = .returned (.bool true) ∧ Below W.heap.size W W' := by
  exact laws_FnExactDelayBound.calls a b c d W (delay_pure a b c d)
end Go.Proofs.Ytidoghpbeilipaa.PA
