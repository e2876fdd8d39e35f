/- Delays as the reference tells them; no condition but what each names. -/
import Derived.Test.YthecknnmfghilaaQ3M4
set_option linter.unusedVariables false
set_option linter.unusedSimpArgs false
namespace Go.Proofs.Ythecknnmfghilaa.Ev.Q3
open Go
set_option linter.unusedSimpArgs false
set_option linter.unusedVariables false
set_option maxHeartbeats 1000000
namespace Sh
variable {R D : Int} {t : List Int}
theorem most_eq (a b : Int) : spec_l1Most a b = some (if b > a then b else a) := by
  unfold spec_l1Most
  by_cases c : a > b
  · rw [if_pos (by simpa using c), if_neg (by omega)]
  · rw [if_neg (by simpa using c)]
    split <;> first | rfl | exact congrArg some (by omega)
theorem last_uniq (o : Ok R D t) {j k k' : Nat} (h : Last R D t j k) (h' : Last R D t j k') : k = k' := by
  obtain ⟨_, h1, h2⟩ := h
  obtain ⟨_, h3, h4⟩ := h'
  rcases Nat.lt_trichotomy k k' with c | c | c
  · have := gone_mono o (show k + 1 ≤ k' by omega); omega
  · exact c
  · have := gone_mono o (show k' + 1 ≤ k by omega); omega
def Pj (R D : Int) (t : List Int) (j : Nat) (x : Int) : Prop := ∃ j' k : Nat, j' < j ∧ Last R D t j' k ∧ x = (k : Int) - (j' : Int)
theorem gone_end {N : Nat} (he : Ends R D t N) : gone R D t N = t.sum := by
  have := came_gone (R := R) (D := D) (t := t) N
  rw [came_all he.1, he.2.1] at this
  omega
theorem find_tick (o : Ok R D t) {N : Nat} (hN : N ≤ 100) (he : Ends R D t N) (j : Nat) (hj : j < t.length) (ha : ar t j > 0) (p : Nat) (hp : gone R D t p ≤ came t j) :
    ∃ k : Nat, Last R D t j k ∧ k < N ∧ spec_shDelay_l3 (shapeR R D t N) (came t j) (ar t j) (gone R D t p, (p : Int)) = some (gone R D t k, (k : Int)) := by
  have hm := o.hm
  have hcj := cameS (t := t) j
  have hc1 := came_ok o (j + 1)
  have hsum : came t (j + 1) ≤ gone R D t N := by
    rw [gone_end he, ← came_all (t := t) (Nat.le_refl _)]
    exact came_mono o (by omega)
  have hlt : ∀ q, gone R D t q < came t (j + 1) → q < N := fun q hq => Nat.lt_of_not_le fun c => by have := gone_mono o c; omega
  have key := iter_ex (step := spec_shDelay_s3 (shapeR R D t N) (came t j) (ar t j)) (fun m x => ∃ q : Nat, x = (gone R D t q, (q : Int)) ∧ gone R D t q < came t (j + 1) ∧ m = N - q)
    (fun r => ∃ k : Nat, r = (gone R D t k, (k : Int)) ∧ Last R D t j k ∧ k < N) (by
      rintro m x ⟨q, rfl, h1, rfl⟩
      have hq := hlt q h1
      have g1 := gone_ok o q
      have g2 := xs_ok o q
      have g3 := goneS (R := R) (D := D) (t := t) q
      have e1 : w64 (gone R D t q + xs R D t q) = gone R D t (q + 1) := by rw [w64_id (by omega) (by omega), g3]
      have e2 : w64 (came t j + ar t j) = came t (j + 1) := by rw [w64_id (by omega) (by omega), hcj]
      have hx := shape_at (R := R) (D := D) (t := t) N q hq
      unfold spec_shDelay_s3
      simp only [shape_length, Int.ofNat_lt, hq, decide_true, if_true, hx, Option.bind_some, e1, e2]
      unfold spec_shDelay_j4
      by_cases c : gone R D t (q + 1) < came t (j + 1)
      · right
        have := hlt (q + 1) c
        rw [show decide (gone R D t (q + 1) < came t (j + 1)) = true by simpa using c, if_pos rfl, hx, Option.bind_some, e1, w64_nat1 (by omega)]
        exact ⟨_, N - (q + 1), by omega, rfl, q + 1, rfl, c, rfl⟩
      · left
        rw [show decide (gone R D t (q + 1) < came t (j + 1)) = false by simpa using c, if_neg (by simp)]
        exact ⟨_, rfl, q, rfl, ⟨ha, h1, by omega⟩, hq⟩) _ (gone R D t p, (p : Int)) ⟨p, rfl, by omega, rfl⟩
  obtain ⟨r, h1, k, rfl, h2, h3⟩ := key
  exact ⟨k, h2, h3, h1⟩

theorem delay_s (o : Ok R D t) {N : Nat} (hN : N ≤ 100) (he : Ends R D t N) : ∃ v, spec_shDelay t (shapeR R D t N) = some v ∧ Most (All R D t) v := by
  have hm := o.hm
  have key := iter_ex (step := spec_shDelay_s1 t (shapeR R D t N)) (fun m x => ∃ (j p : Nat) (dl : Int), x = (dl, came t j, gone R D t p, (p : Int), (j : Int)) ∧ gone R D t p ≤ came t j ∧ p ≤ 100 ∧ Most (Pj R D t j) dl ∧ j ≤ t.length ∧ m = t.length - j)
    (fun r => Most (Pj R D t t.length) r) (by
      rintro m x ⟨j, p, dl, rfl, h1, h2, h3, h4, rfl⟩
      unfold spec_shDelay_s1
      dsimp only
      by_cases c : j < t.length
      · right
        have a1 := ar_ok o j
        have a2 := came_ok o j
        have a3 := cameS (t := t) j
        have e2 : w64 (came t j + ar t j) = came t (j + 1) := by rw [w64_id (by omega) (by omega), a3]
        rw [if_pos (by simpa using c), tr_at j c, Option.bind_some]
        by_cases z : ar t j = 0
        · rw [if_pos (by simpa using z)]
          unfold spec_shDelay_j2
          dsimp only
          rw [e2, w64_nat1 (by omega)]
          refine ⟨_, t.length - (j + 1), by omega, rfl, j + 1, p, dl, rfl, by omega, h2, h3.same fun y => ⟨?_, ?_⟩, by omega, rfl⟩
          · rintro ⟨j', k, q1, q2, q3⟩
            refine ⟨j', k, ?_, q2, q3⟩
            refine Nat.lt_of_le_of_ne (by omega) ?_
            rintro rfl
            have := q2.1
            omega
          · rintro ⟨j', k, q1, q2, q3⟩
            exact ⟨j', k, by omega, q2, q3⟩
        · rw [if_neg (by simpa using z)]
          obtain ⟨k, hl, hk, hf⟩ := find_tick o hN he j c (by omega) p h1
          have hjk := (last_lt o hl).2
          rw [hf, Option.bind_some]
          dsimp only
          rw [w64_id (x := (k : Int) - (j : Int)) (by omega) (by omega), most_eq, Option.bind_some]
          unfold spec_shDelay_j2
          dsimp only
          rw [e2, w64_nat1 (by omega)]
          refine ⟨_, t.length - (j + 1), by omega, rfl, j + 1, k, _, rfl, by have := hl.2.1; omega, by omega, h3.more (by omega) fun y => ⟨?_, ?_⟩, by omega, rfl⟩
          · rintro ⟨j', k', q1, q2, q3⟩
            by_cases e : j' = j
            · subst e
              obtain rfl := last_uniq o q2 hl
              exact .inr q3
            · exact .inl ⟨j', k', by omega, q2, q3⟩
          · rintro (⟨j', k', q1, q2, q3⟩ | q3)
            · exact ⟨j', k', by omega, q2, q3⟩
            · exact ⟨j, k, by omega, hl, q3⟩
      · left
        obtain rfl : j = t.length := by omega
        rw [if_neg (by simp)]
        exact ⟨_, rfl, h3⟩) _ (0, 0, 0, 0, 0) ⟨0, 0, 0, rfl, by simp [gone, came], by omega, .start (by rintro x ⟨j', k, q1, _⟩; omega), by omega, rfl⟩
  obtain ⟨v, h1, h2⟩ := key
  unfold spec_shDelay spec_shDelay_l1
  rw [h1]
  refine ⟨v, rfl, h2.same fun y => ⟨?_, ?_⟩⟩
  · rintro ⟨j, k, q1, q2⟩
    exact ⟨j, k, (last_lt o q1).1, q1, q2⟩
  · rintro ⟨j, k, _, q1, q2⟩
    exact ⟨j, k, q1, q2⟩
end Sh
end Go.Proofs.Ythecknnmfghilaa.Ev.Q3
