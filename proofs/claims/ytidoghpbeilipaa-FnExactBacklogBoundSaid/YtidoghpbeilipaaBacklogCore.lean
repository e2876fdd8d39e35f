/- What the call of the law on BacklogBound comes to; no condition. -/
import Derived.Test.YtidoghpbeilipaaRows
import Derived.Test.YtidoghpbeilipaaPFnExactBacklogBoundx
namespace Go.Proofs.Ytidoghpbeilipaa.lawBacklogBound
open Go.RowKit
open Go.Proofs.Ytidoghpbeilipaa.PFnExactBacklogBound
set_option linter.unusedVariables false

theorem server_same (a b : Int) : impl_IsServer.f a b = spec_boServer.f a b := rfl
theorem bucket_same (a b : Int) : impl_IsBucket.f a b = spec_shBucket.f a b := by
  unfold impl_IsBucket.f spec_shBucket.f impl_isRate.f impl_isDepth.f impl_within.f spec_l1In.f
  split <;> simp
theorem in_some (x l h : Int) : ∃ b, spec_l1In.f x l h = some b := by
  unfold spec_l1In.f
  split <;> exact ⟨_, rfl⟩
theorem rate_some (x : Int) : ∃ b, spec_shRate.f x = some b := by
  obtain ⟨b, h⟩ := in_some x 1 100
  exact ⟨b, by simp [spec_shRate.f, h]⟩
theorem server_some (a b : Int) : ∃ r, spec_boServer.f a b = some r := by
  obtain ⟨x, h⟩ := rate_some a
  obtain ⟨y, k⟩ := in_some b 0 20
  cases x
  · exact ⟨false, by simp [spec_boServer.f, h]⟩
  · exact ⟨y, by simp [spec_boServer.f, h, k]⟩
theorem bucket_some (a b : Int) : ∃ r, spec_shBucket.f a b = some r := by
  obtain ⟨x, h⟩ := in_some a 1 100
  obtain ⟨y, k⟩ := in_some b 1 1000
  cases x
  · exact ⟨false, by simp [spec_shBucket.f, h]⟩
  · exact ⟨y, by simp [spec_shBucket.f, h, k]⟩
theorem bounded_same (a b c d : Int) : impl_isBounded.f a b c d = spec_boFits.f a b c d := by
  unfold spec_boFits.f impl_isBounded.f
  rw [server_same, bucket_same]
theorem fits_some (a b c d : Int) : ∃ r, spec_boFits.f a b c d = some r := by
  obtain ⟨x, h⟩ := server_some a b
  obtain ⟨y, k⟩ := bucket_some c d
  cases x
  · exact ⟨false, by simp [spec_boFits.f, h]⟩
  · cases y
    · exact ⟨false, by simp [spec_boFits.f, h, k]⟩
    · exact ⟨decide (c ≤ a), by simp [spec_boFits.f, h, k]⟩
theorem bound_same (a b c d : Int) : impl_BacklogBound.f a b c d = spec_BacklogBound.f a b c d := by
  unfold spec_BacklogBound.f impl_BacklogBound.f
  rw [bounded_same]
theorem bound_some (a b c d : Int) : ∃ r, spec_BacklogBound.f a b c d = some r := by
  obtain ⟨x, h⟩ := fits_some a b c d
  cases x
  · exact ⟨_, by simp [spec_BacklogBound.f, h]; rfl⟩
  · exact ⟨_, by simp [spec_BacklogBound.f, h]; rfl⟩
theorem pure_ (a b c d : Int) : laws_FnExactBacklogBound.f a b c d = some true := by
  obtain ⟨r, h⟩ := bound_some a b c d
  simp [laws_FnExactBacklogBound.f, laws_toServer.f, laws_toBucket.f, bound_same, h]


theorem core (a b c d : Int) (W : World) (_ : (Lit.int .i64 a).wf = true ∧ (Lit.int .i64 b).wf = true) (_ : (Lit.int .i64 c).wf = true ∧ (Lit.int .i64 d).wf = true) :
    Calls Try.prog 3 #[.agg #[.int .i64 a, .int .i64 b], .agg #[.int .i64 c, .int .i64 d]] W fun e W' => e = .returned (.bool true) ∧ Below W.heap.size W W' :=
  laws_FnExactBacklogBound.calls a b c d true W (pure_ a b c d)
end Go.Proofs.Ytidoghpbeilipaa.lawBacklogBound
