/- Plain facts on the printed tests of servers and buckets; no condition. -/
import Derived.Test.YtidoghpbeilipaaPA1
namespace Go.Proofs.Ytidoghpbeilipaa.PA
open Go.RowKit Go.Proofs.YtidoghpbeilipaaW.PrintWords Go.Proofs.YtidoghpbeilipaaW.PrintLast Go.Proofs.YtidoghpbeilipaaW.PrintMore

theorem within_same (x l h : Int) : impl_within.f x l h = spec_l1In.f x l h := rfl
theorem server_same (a b : Int) : impl_IsServer.f a b = spec_boServer.f a b := rfl
theorem bucket_same (a b : Int) : impl_IsBucket.f a b = spec_shBucket.f a b := by
  unfold impl_IsBucket.f spec_shBucket.f impl_isRate.f impl_isDepth.f
  simp [within_same]
theorem in_tells (x l h : Int) : spec_l1In.f x l h = some (decide (l ≤ x ∧ x ≤ h)) := by
  unfold spec_l1In.f
  by_cases c : x ≥ l
  · rw [if_pos c]
    congr 1
    simp [show l ≤ x from c]
  · rw [if_neg c]
    simp [show ¬ l ≤ x from c]
def serverB (a b : Int) : Bool := decide (1 ≤ a ∧ a ≤ 100) && decide (0 ≤ b ∧ b ≤ 20)
def bucketB (a b : Int) : Bool := decide (1 ≤ a ∧ a ≤ 100) && decide (1 ≤ b ∧ b ≤ 1000)
theorem server_tells (a b : Int) : spec_boServer.f a b = some (serverB a b) := by
  simp only [spec_boServer.f, spec_shRate.f, in_tells, Option.bind_some, serverB]
  cases decide (1 ≤ a ∧ a ≤ 100) <;> simp
theorem bucket_tells (a b : Int) : spec_shBucket.f a b = some (bucketB a b) := by
  simp only [spec_shBucket.f, in_tells, Option.bind_some, bucketB]
  cases decide (1 ≤ a ∧ a ≤ 100) <;> simp
def fitsB (a b c d : Int) : Bool := serverB a b && (bucketB c d && decide (c ≤ a))
theorem fits_tells (a b c d : Int) : spec_boFits.f a b c d = some (fitsB a b c d) := by
  simp only [spec_boFits.f, server_tells, bucket_tells, Option.bind_some, fitsB]
  cases serverB a b <;> cases bucketB c d <;> simp
theorem bounded_tells (a b c d : Int) : impl_isBounded.f a b c d = some (fitsB a b c d) := by
  rw [← fits_tells]
  unfold spec_boFits.f impl_isBounded.f
  rw [server_same, bucket_same]
theorem fits_of {a b c d : Int} (h : fitsB a b c d = true) : (1 ≤ a ∧ a ≤ 100) ∧ (0 ≤ b ∧ b ≤ 20) ∧ (1 ≤ c ∧ c ≤ 100) ∧ (1 ≤ d ∧ d ≤ 1000) ∧ c ≤ a := by
  simp [fitsB, serverB, bucketB] at h
  omega

end Go.Proofs.Ytidoghpbeilipaa.PA
