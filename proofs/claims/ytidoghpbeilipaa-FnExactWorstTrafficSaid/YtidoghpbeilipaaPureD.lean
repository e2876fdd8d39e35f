/- The law on WorstTraffic comes to true; no condition. -/
import Derived.Below
import Derived.Test.YtidoghpbeilipaaBase
import Derived.Test.YtidoghpbeilipaaPureKit
import Derived.Test.YtidoghpbeilipaaPA9
namespace Go.Proofs.Ytidoghpbeilipaa.PA
open Go.RowKit Go.Proofs.YtidoghpbeilipaaW.PrintWords Go.Proofs.YtidoghpbeilipaaW.PrintLast Go.Proofs.YtidoghpbeilipaaW.PrintMore
theorem least_tells (a b : Int) : spec_l1Least.f a b = some (mn a b) := by
  unfold spec_l1Least.f mn
  split <;> split <;> first | rfl | (congr 1; omega)

theorem worst_l0 (k : Nat) : ∀ (l : List Int) (n i a b : Int), impl_WorstTraffic.l0 k l n i a b = spec_WorstTraffic.l0 k n l i a b := by
  induction k with
  | zero => intros; rfl
  | succ k ih =>
    intro l n i a b
    simp only [impl_WorstTraffic.l0, spec_WorstTraffic.l0, least_tells, Option.bind_some, ih]
theorem worst_same (k : Nat) (a b n : Int) : impl_WorstTraffic.f k a b n = spec_WorstTraffic.f k a b n := by
  have j (x : Bool) : impl_WorstTraffic.j0 k n x a b = spec_WorstTraffic.j0 k n x a b := by
    cases k with
    | zero => rfl
    | succ k => simp only [impl_WorstTraffic.j0, spec_WorstTraffic.j0, worst_l0]
  simp only [impl_WorstTraffic.f, spec_WorstTraffic.f, bucket_same, within_same, j]
theorem worst_ends (n : Int) (a b : Int) (d : Nat) : ∀ (k : Nat) (l : List Int) (i : Int), 0 ≤ i → i ≤ n → n ≤ 40 → l.length = i.toNat → (n - i).toNat = d → d < k →
    ∃ r, spec_WorstTraffic.l0 k n l i a b = some (r, true) ∧ r.length ≤ 40 := by
  induction d with
  | zero =>
    intro k l i h0 h1 h2 hl hd hk
    obtain ⟨k, rfl⟩ : ∃ m, k = m + 1 := ⟨k - 1, by omega⟩
    refine ⟨l, ?_, by omega⟩
    simp only [spec_WorstTraffic.l0]
    rw [if_neg (by omega)]
  | succ d ih =>
    intro k l i h0 h1 h2 hl hd hk
    obtain ⟨k, rfl⟩ : ∃ m, k = m + 1 := ⟨k - 1, by omega⟩
    simp only [spec_WorstTraffic.l0, least_tells, Option.bind_some]
    rw [if_pos (by omega), w64 (by omega) (by omega), if_pos (show l.length < 17592186044416 by omega), if_pos (show l.length < 17592186044416 by omega)]
    by_cases c : i = 0
    · rw [if_pos c]
      exact ih k _ (i + 1) (by omega) (by omega) h2 (by simp; omega) (by omega) (by omega)
    · rw [if_neg c]
      exact ih k _ (i + 1) (by omega) (by omega) h2 (by simp; omega) (by omega) (by omega)
theorem worst_some (a b n : Int) : ∃ r, (∀ k, 100 ≤ k → spec_WorstTraffic.f k a b n = some r) ∧ r.1.length ≤ 40 := by
  cases h : bucketB a b
  · refine ⟨([], false), fun k hk => ?_, by simp⟩
    obtain ⟨k, rfl⟩ : ∃ m, k = m + 1 := ⟨k - 1, by omega⟩
    simp [spec_WorstTraffic.f, bucket_tells, h, spec_WorstTraffic.j0]
  · by_cases c : 0 ≤ n ∧ n ≤ 40
    · obtain ⟨r, hr, hl⟩ := worst_ends n a b n.toNat 99 [] 0 (by omega) (by omega) (by omega) rfl (by omega) (by omega)
      refine ⟨(r, true), fun k hk => ?_, hl⟩
      obtain ⟨k, rfl⟩ : ∃ m, k = m + 1 := ⟨k - 1, by omega⟩
      have := at_rounds (g := fun k => spec_WorstTraffic.l0 k n [] 0 a b) (fun k => (spec_WorstTraffic.mono_l k).2 _ _ _ _ _) (show 99 ≤ k by omega) hr
      simp [spec_WorstTraffic.f, bucket_tells, h, in_tells, c, spec_WorstTraffic.j0]
      exact this
    · refine ⟨([], false), fun k hk => ?_, by simp⟩
      obtain ⟨k, rfl⟩ : ∃ m, k = m + 1 := ⟨k - 1, by omega⟩
      simp only [spec_WorstTraffic.f, bucket_tells, h, in_tells, Option.bind_some, decide_eq_false c, spec_WorstTraffic.j0]
      simp
theorem worst_pure (a b n : Int) : ∃ k, laws_FnExactWorstTraffic.f k a b n = some true := by
  obtain ⟨⟨l, x⟩, hr, hl⟩ := worst_some a b n
  refine ⟨1002, ?_⟩
  simp only at hl
  simp only [laws_FnExactWorstTraffic.f, laws_toBucket.f, Option.bind_some, worst_same, hr 1002 (by omega), eqIntS_self l (by omega) (show l.length < 1002 by omega), if_true, bne_self_eq_false,
    laws_FnExactWorstTraffic.j0, laws_FnExactWorstTraffic.j1, hr 1001 (by omega), eqIntS_self l (by omega) (show l.length < 1001 by omega), markIntS_tells l (by omega) (show l.length < 1001 by omega),
    heldIntS_tells l.length (by omega) (show l.length < 1001 by omega), heldIntS_tells l.length (by omega) (show l.length < 1000 by omega)]
  have hn : ¬ (1 + (l.length : Int)) < 0 := by omega
  simp [hn]

theorem core_FnExactWorstTraffic (a b n : Int) (W : World) (_ : (Lit.int .i64 a).wf = true ∧ (Lit.int .i64 b).wf = true) (_ : (Lit.int .i64 n).wf = true) :
    Calls Try.prog 7 #[.agg #[.int .i64 a, .int .i64 b], .int .i64 n] W fun e W' => e = .returned (.bool true) ∧ Below W.heap.size W W' := by
  obtain ⟨k, hk⟩ := worst_pure a b n
  exact laws_FnExactWorstTraffic.calls k a b n W hk
end Go.Proofs.Ytidoghpbeilipaa.PA
