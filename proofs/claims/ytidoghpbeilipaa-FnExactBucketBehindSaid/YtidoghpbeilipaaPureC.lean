/- The law on BucketBehind comes to true; no condition. -/
import Derived.Below
import Derived.Test.YtidoghpbeilipaaBase
import Derived.Test.YtidoghpbeilipaaPA7
namespace Go.Proofs.Ytidoghpbeilipaa.PA
open Go.RowKit Go.Proofs.YtidoghpbeilipaaW.PrintWords Go.Proofs.YtidoghpbeilipaaW.PrintLast Go.Proofs.YtidoghpbeilipaaW.PrintMore
theorem behind_pure (a b c d : Int) : laws_FnExactBucketBehind.f a b c d = some true := by
  have e : impl_BucketBehind.f a b c d = spec_BucketBehind.f a b c d := by
    simp only [impl_BucketBehind.f, spec_BucketBehind.f, impl_BacklogBound.f, fits_tells, bounded_tells, Option.bind_some]
    cases h : fitsB a b c d
    · simp
    · have := fits_of h
      simp only [if_true, Option.bind_some, bucket_tells, bucketB, impl_isDepth.f, within_same, in_tells]
      simp [show 1 ≤ c ∧ c ≤ 100 by omega]
  have z : ∃ r, spec_BucketBehind.f a b c d = some r := by
    simp only [spec_BucketBehind.f, fits_tells, bucket_tells, Option.bind_some]
    cases fitsB a b c d <;> cases bucketB c (wrap64 (d + wrap64 (c * b))) <;> exact ⟨_, rfl⟩
  obtain ⟨r, hr⟩ := z
  simp [laws_FnExactBucketBehind.f, laws_toServer.f, laws_toBucket.f, e, hr, laws_eqBucket.f]


theorem core_FnExactBucketBehind (a b c d : Int) (W : World) (_ : (Lit.int .i64 a).wf = true ∧ (Lit.int .i64 b).wf = true) (_ : (Lit.int .i64 c).wf = true ∧ (Lit.int .i64 d).wf = true) :
    Calls Try.prog 6 #[.agg #[.int .i64 a, .int .i64 b], .agg #[.int .i64 c, .int .i64 d]] W fun e W' => e = .returned (.bool true) ∧ Below W.heap.size W W' := by
  exact laws_FnExactBucketBehind.calls a b c d W (behind_pure a b c d)
end Go.Proofs.Ytidoghpbeilipaa.PA
