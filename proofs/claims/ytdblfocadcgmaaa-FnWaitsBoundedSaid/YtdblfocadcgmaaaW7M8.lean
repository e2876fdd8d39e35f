/- Token rings: draws; no condition but that bytes are bytes. -/
import Derived.Test.YtdblfocadcgmaaaW7M7
set_option linter.unusedVariables false
set_option linter.unusedSimpArgs false
namespace Go.Proofs.Ytdblfocadcgmaaa.Ev.W7
open Go
set_option linter.unusedSimpArgs false
set_option linter.unusedVariables false

theorem cur0 (s : List Int) : Cur s (s, 0, 0) 0 := ⟨rfl, by simp, by simp⟩
theorem tokens_ok {s : List Int} (hs : Bytes s) {c : List Int × Int × Int} {k : Int} (hc : Cur s c k) (hk : k ≤ 1099511620000) : ∃ r c', spec_l1Cur_tokens c = some (r, c') ∧ Cur s c' (k + 10) := by
  unfold spec_l1Cur_tokens
  obtain ⟨v1, c1, e1, hc1, _⟩ := pick_ok hs hc (by omega) 4
  obtain ⟨v2, c2, e2, hc2, _⟩ := pick_ok hs hc1 (by omega) 3
  obtain ⟨v3, c3, e3, hc3, _⟩ := pick_ok hs hc2 (by omega) 3
  obtain ⟨v4, c4, e4, hc4, _⟩ := pick_ok hs hc3 (by omega) 18
  rw [e1, Option.bind_some, e2, Option.bind_some, e3, Option.bind_some, e4, Option.bind_some]
  dsimp only
  split
  · obtain ⟨v5, c5, e5, hc5, _⟩ := among_ok hs hc4 (by omega) [(1 : Int), 12, 13, -1, 4611686018427387904] (by simp) (by simp)
    rw [e5, Option.bind_some]
    exact ⟨_, _, rfl, hc5.mono (by omega)⟩
  · split
    · obtain ⟨v5, c5, e5, hc5, _⟩ := among_ok hs hc4 (by omega) [(0 : Int), 10, 11, -1] (by simp) (by simp)
      rw [e5, Option.bind_some]
      exact ⟨_, _, rfl, hc5.mono (by omega)⟩
    · split
      · obtain ⟨v5, c5, e5, hc5, _⟩ := among_ok hs hc4 (by omega) [(0 : Int), 10, 11, 4611686018427387904] (by simp) (by simp)
        rw [e5, Option.bind_some]
        exact ⟨_, _, rfl, hc5.mono (by omega)⟩
      · exact ⟨_, _, rfl, hc4.mono (by omega)⟩

theorem calls_loop {s : List Int} (hs : Bytes s) {K : Int} (hK : K ≤ 1099511627000) (v : Int) : ∀ (n : Nat) (x : List Int × Int × Int × List Call × Int × Int),
    (Cur s (x.1, x.2.1, x.2.2.1) (K - 6 * (n : Int)) ∧ x.2.2.2.2.2 = (n : Int) ∧ x.2.2.2.1.length + n ≤ 20) → ∃ q, iter (spec_l1Cur_calls_s1 v) x = some q ∧ Cur s (q.1, q.2.1, q.2.2.1) K ∧ q.2.2.2.1.length ≤ 20 := by
  refine iter_ex _ _ ?_
  rintro n ⟨a, b, c, l, y, x⟩ ⟨h1, h2, h3⟩
  dsimp only at h1 h2 h3 ⊢
  unfold spec_l1Cur_calls_s1
  dsimp only
  by_cases hx : x > 0
  · right
    obtain ⟨m, rfl⟩ : ∃ m, n = m + 1 := ⟨n - 1, by omega⟩
    obtain ⟨v1, c1, e1, hc1, _⟩ := among_ok hs h1 (by omega) [(0 : Int), 0, 0, 1, 2, 9] (by simp) (by simp)
    obtain ⟨v2, c2, e2, hc2, _⟩ := pick_ok hs hc1 (by omega) v
    obtain ⟨v3, c3, e3, hc3, _⟩ := pick_ok hs hc2 (by omega) v
    rw [if_pos (by simpa using hx), e1, Option.bind_some, e2, Option.bind_some, e3, Option.bind_some, app_ok (by simp; omega), Option.bind_some]
    refine ⟨_, m, by omega, rfl, hc3.mono (by omega), ?_, ?_⟩
    · dsimp only; rw [w64_id (by omega) (by omega)]; omega
    · dsimp only; simp; omega
  · left
    rw [if_neg (by simpa using hx)]
    exact ⟨_, rfl, h1.mono (by omega), by dsimp only; omega⟩

theorem calls_fill {s : List Int} (hs : Bytes s) {K : Int} (hK : K ≤ 1099511627000) (y : Int) : ∀ (n : Nat) (x : List Int × Int × Int × List Call),
    (Cur s (x.1, x.2.1, x.2.2.1) (K - 2 * (n : Int) - 2) ∧ x.2.2.2.length ≤ 21 ∧ n = 21 - x.2.2.2.length) → ∃ q, iter (spec_l1Cur_calls_s4 y) x = some q ∧ Cur s (q.1, q.2.1, q.2.2.1) K ∧ q.2.2.2.length ≤ 21 := by
  refine iter_ex _ _ ?_
  rintro n ⟨a, b, c, l⟩ ⟨h1, h3, rfl⟩
  dsimp only at h1 h3 ⊢
  unfold spec_l1Cur_calls_s4
  dsimp only
  obtain ⟨v1, c1, e1, hc1, p1, p2, p3⟩ := pick_ok hs h1 (by omega) 2
  have hv := p2 (by omega)
  rw [e1, Option.bind_some]
  dsimp only
  rw [w64_id (x := 20 + v1) (by omega) (by omega)]
  by_cases hx : (l.length : Int) < 20 + v1
  · right
    rw [if_pos (by simpa using hx), app_ok (by simp; omega), Option.bind_some]
    refine ⟨_, 21 - (l.length + 1), by omega, rfl, ?_, ?_, ?_⟩
    · dsimp only; exact hc1.mono (by omega)
    · dsimp only; simp; omega
    · dsimp only; simp
  · left
    rw [if_neg (by simpa using hx)]
    exact ⟨_, rfl, by dsimp only; exact hc1.mono (by omega), by dsimp only; omega⟩

theorem calls_ok {s : List Int} (hs : Bytes s) {c : List Int × Int × Int} {k : Int} (hc : Cur s c k) (hk : k ≤ 1099511620000) (r : Int × Int × Int) : ∃ ms c', spec_l1Cur_calls r c = some (ms, c') ∧ Cur s c' (k + 300) ∧ ms.length ≤ 21 := by
  have hle : ∃ v, spec_l1Least r.1 12 = some v := by unfold spec_l1Least; split <;> exact ⟨_, rfl⟩
  obtain ⟨v70, e70⟩ := hle
  unfold spec_l1Cur_calls
  rw [e70, Option.bind_some, most_eq, Option.bind_some]
  generalize (if v70 > 1 then v70 else 1) = v71
  obtain ⟨v1, c1, e1, hc1, hm⟩ := among_ok hs hc (by omega) [(0 : Int), 1, 3, 6, 10, 20] (by simp) (by simp)
  have hv : 0 ≤ v1 ∧ v1 ≤ 20 := by simp at hm; omega
  rw [e1, Option.bind_some]
  dsimp only
  obtain ⟨⟨a, b, d, l, y⟩, e3, hc3, hl⟩ := calls_loop hs (K := k + 150) (by omega) v71 v1.toNat (c1.1, c1.2.1, c1.2.2, [], 0, v1) ⟨hc1.mono (by omega), by dsimp only; omega, by simp; omega⟩
  unfold spec_l1Cur_calls_l1
  rw [e3, Option.bind_some]
  dsimp only at hc3 hl ⊢
  have j2 : ∀ (c2 : List Int × Int × Int) (l : List Call), Cur s c2 (k + 200) → l.length ≤ 20 → ∃ ms c', spec_l1Cur_calls_j2 y (c2.1, c2.2.1, c2.2.2, l) = some (ms, c') ∧ Cur s c' (k + 300) ∧ ms.length ≤ 21 := by
    intro c2 l h1 h2
    unfold spec_l1Cur_calls_j2
    dsimp only
    obtain ⟨v5, c5, e5, hc5⟩ := one_ok hs h1 (by omega) 20
    rw [e5, Option.bind_some]
    dsimp only
    split
    · obtain ⟨⟨a', b', d', l'⟩, e6, hc6, hl'⟩ := calls_fill hs (K := k + 300) (by omega) y (21 - l.length) (c5.1, c5.2.1, c5.2.2, l) ⟨hc5.mono (by omega), by dsimp only; omega, rfl⟩
      unfold spec_l1Cur_calls_l4
      rw [e6, Option.bind_some]
      exact ⟨_, _, rfl, hc6, hl'⟩
    · exact ⟨_, _, rfl, hc5.mono (by omega), by omega⟩
  by_cases hpos : (l.length : Int) > 0
  · rw [if_pos (by simpa using hpos)]
    obtain ⟨v4, c4, e4, hc4, _⟩ := pick_ok hs hc3 (by omega) 16
    rw [e4, Option.bind_some]
    dsimp only
    split
    · obtain ⟨v5, c5, e5, hc5, _⟩ := among_ok hs hc4 (by omega) [(-1 : Int), 50, 1000, 1001, 4611686018427387904] (by simp) (by simp)
      rw [e5, Option.bind_some, at_getD (0, 0, 0) (by omega) (by omega), Option.bind_some]
      exact j2 c5 _ (hc5.mono (by omega)) (by rw [List.length_set]; omega)
    · split
      · obtain ⟨v5, c5, e5, hc5, p1, p2, p3⟩ := pick_ok hs hc4 (by omega) (l.length : Int)
        obtain ⟨v6, c6, e6, hc6, _⟩ := among_ok hs hc5 (by omega) [(-1 : Int), v71, 4611686018427387904] (by simp) (by simp)
        have hv5 : v5 < l.length := by
          by_cases h : 1 < (l.length : Int)
          · exact p2 h
          · have := p3 (by omega); omega
        rw [e5, Option.bind_some]
        dsimp only
        rw [e6, Option.bind_some, at_getD (0, 0, 0) p1 hv5, Option.bind_some]
        exact j2 c6 _ (hc6.mono (by omega)) (by rw [List.length_set]; omega)
      · split
        · rw [w64_id (by omega) (by omega), at_getD (0, 0, 0) (by omega) (by omega), Option.bind_some]
          exact j2 c4 _ (hc4.mono (by omega)) (by rw [List.length_set]; omega)
        · exact j2 c4 _ (hc4.mono (by omega)) hl
  · rw [if_neg (by simpa using hpos)]
    exact j2 (a, b, d) l (hc3.mono (by omega)) (by omega)

theorem draw_calls {s : List Int} (hs : Bytes s) : ∃ r ms, spec_DrawAreCalls s = some (r, ms) ∧ ms.length ≤ 21 := by
  obtain ⟨r, c1, e1, hc1⟩ := tokens_ok hs (cur0 s) (by omega)
  obtain ⟨ms, c2, e2, hc2, hl⟩ := calls_ok hs hc1 (by omega) r
  unfold spec_DrawAreCalls
  rw [e1, Option.bind_some, e2, Option.bind_some]
  exact ⟨_, _, rfl, hl⟩
theorem draw_ring {s : List Int} (hs : Bytes s) : ∃ r, spec_DrawIsTokenRing s = some r := by
  obtain ⟨r, c1, e1, hc1⟩ := tokens_ok hs (cur0 s) (by omega)
  unfold spec_DrawIsTokenRing
  rw [e1, Option.bind_some]
  exact ⟨_, rfl⟩
theorem draw_tick {s : List Int} (hs : Bytes s) : ∃ r ms t, spec_DrawTokenAt s = some (r, ms, t) ∧ ms.length ≤ 21 := by
  obtain ⟨r, c1, e1, hc1⟩ := tokens_ok hs (cur0 s) (by omega)
  obtain ⟨ms, c2, e2, hc2, hl⟩ := calls_ok hs hc1 (by omega) r
  obtain ⟨v3, c3, e3, hc3, _⟩ := pick_ok hs hc2 (by omega) 60
  obtain ⟨v4, c4, e4, hc4, _⟩ := pick_ok hs hc3 (by omega) 60
  obtain ⟨v5, c5, e5, hc5, _⟩ := among_ok hs hc4 (by omega) [(0 : Int), 1, 5, 20, 1000, 1001, -1, v3, v4] (by simp) (by simp)
  unfold spec_DrawTokenAt
  rw [e1, Option.bind_some, e2, Option.bind_some, e3, Option.bind_some]
  dsimp only
  rw [e4, Option.bind_some]
  dsimp only
  rw [e5, Option.bind_some]
  exact ⟨_, _, _, rfl, hl⟩
theorem draw_full {s : List Int} (hs : Bytes s) : ∃ r p, spec_DrawFullCalls s = some (r, p) := by
  obtain ⟨r, c1, e1, hc1⟩ := tokens_ok hs (cur0 s) (by omega)
  obtain ⟨v5, c5, e5, hc5, _⟩ := among_ok hs hc1 (by omega) [(0 : Int), 1, 2, 3, 5, 10, 11, -1] (by simp) (by simp)
  unfold spec_DrawFullCalls
  rw [e1, Option.bind_some]
  dsimp only
  rw [e5, Option.bind_some]
  exact ⟨_, _, rfl⟩
theorem draw_bound {s : List Int} (hs : Bytes s) : ∃ r p, spec_DrawWaitBound s = some (r, p) := by
  obtain ⟨r, c1, e1, hc1⟩ := tokens_ok hs (cur0 s) (by omega)
  obtain ⟨v5, c5, e5, hc5, _⟩ := among_ok hs hc1 (by omega) [(0 : Int), 1, 2, 5, 19, 100, 101, -1] (by simp) (by simp)
  unfold spec_DrawWaitBound
  rw [e1, Option.bind_some]
  dsimp only
  rw [e5, Option.bind_some]
  exact ⟨_, _, rfl⟩
theorem big_ok (p0 p1 : List Int) (h0 : ∀ x ∈ p0, 0 ≤ x ∧ x < 256) (h1 : ∀ x ∈ p1, 0 ≤ x ∧ x < 256) : ∃ b, laws_big p0 p1 = some b ∧ (b = false → Bytes p0 ∧ Bytes p1) := by
  unfold laws_big
  by_cases h : (p0.length : Int) > 1048576
  · rw [if_pos (by simpa using h)]
    exact ⟨true, rfl, by simp⟩
  · rw [if_neg (by simpa using h), w64_id (by omega) (by omega)]
    refine ⟨_, rfl, fun hb => ?_⟩
    have hb := of_decide_eq_false hb
    exact ⟨⟨h0, by omega⟩, ⟨h1, by omega⟩⟩

end Go.Proofs.Ytdblfocadcgmaaa.Ev.W7
