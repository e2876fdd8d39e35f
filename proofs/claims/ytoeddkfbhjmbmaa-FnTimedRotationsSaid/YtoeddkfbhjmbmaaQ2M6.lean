/- Draws of timed rings and wishes; no condition but what each names. -/
import Derived.Test.YtoeddkfbhjmbmaaQ2M5
set_option linter.unusedVariables false
set_option linter.unusedSimpArgs false
namespace Go.Proofs.Ytoeddkfbhjmbmaa.Ev.Q2
open Go
set_option linter.unusedVariables false
set_option linter.unusedSimpArgs false
set_option maxHeartbeats 1000000
namespace Tr

theorem timed_loop {s : List Int} (hs : Bytes s) {K : Int} (hK : K ≤ 1099511627000) (L : Nat) (hL : L ≤ 10) : ∀ (n : Nat) (x : List Int × Int × Int × List Int × Int),
    (Cur s (x.1, x.2.1, x.2.2.1) (K - 2 * x.2.2.2.2) ∧ x.2.2.2.2 = (n : Int) ∧ x.2.2.2.1.length + n = L ∧ ∀ y ∈ x.2.2.2.1, 0 ≤ y ∧ y ≤ 200) → ∃ r, iter spec_l1Cur_timed_s1 x = some r ∧ Cur s (r.1, r.2.1, r.2.2.1) K ∧ r.2.2.2.length = L ∧ ∀ y ∈ r.2.2.2, 0 ≤ y ∧ y ≤ 200 := by
  refine iter_ex _ _ ?_
  rintro n ⟨a, b, c, l, x⟩ ⟨h1, h2, h3, h4⟩
  dsimp only at h1 h2 h3 h4 ⊢
  unfold spec_l1Cur_timed_s1
  dsimp only
  by_cases hx : x > 0
  · right
    obtain ⟨v, c', e, hc, q1, q2, q3⟩ := pick_ok hs h1 (by omega) 4
    obtain ⟨m, rfl⟩ : ∃ m, n = m + 1 := ⟨n - 1, by omega⟩
    rw [if_pos (by simpa using hx), e, Option.bind_some, app_ok (by simp; omega), Option.bind_some]
    refine ⟨_, m, by omega, rfl, ?_, ?_, ?_, ?_⟩
    · rw [w64_id (by omega) (by omega)]
      exact hc.mono (by dsimp only; omega)
    · dsimp only; rw [w64_id (by omega) (by omega)]; omega
    · dsimp only; simp; omega
    · intro y hy
      rcases List.mem_append.1 hy with hy | hy
      · exact h4 y hy
      · obtain rfl := List.mem_singleton.1 hy
        have := q2 (by omega)
        omega
  · left
    rw [if_neg (by simpa using hx)]
    have hn : n = 0 := by omega
    subst hn
    exact ⟨_, rfl, h1.mono (by omega), by simpa using h3, h4⟩

theorem timed_ok {s : List Int} (hs : Bytes s) {c : List Int × Int × Int} {k : Int} (hc : Cur s c k) (hk : k ≤ 1099511620000) : ∃ t w l c', spec_l1Cur_timed c = some ((t, w, l), c') ∧ Cur s c' (k + 40) ∧ 1 ≤ l.length ∧ l.length ≤ 13 := by
  unfold spec_l1Cur_timed
  obtain ⟨v1, c1, e1, hc1, p1, p2, p3⟩ := pick_ok hs hc (by omega) 5
  rw [e1, Option.bind_some]
  obtain ⟨v2, c2, e2, hc2, r1, r2, r3⟩ := pick_ok hs hc1 (by omega) 3
  rw [e2, Option.bind_some]
  dsimp only
  have hv1 := p2 (by omega)
  have hv2 := r2 (by omega)
  rw [w64_id (x := 1 + v1) (by omega) (by omega), w64_id (x := 1 + v2) (by omega) (by omega)]
  obtain ⟨⟨a, b, cc, l⟩, e3, hc3, hl, hel⟩ := timed_loop hs (K := k + 20) (by omega) (1 + v1).toNat (by omega) (1 + v1).toNat (c2.1, c2.2.1, c2.2.2, [], 1 + v1) ⟨hc2.mono (by dsimp only; omega), by dsimp only; omega, by simp, by simp⟩
  unfold spec_l1Cur_timed_l1
  rw [e3, Option.bind_some]
  dsimp only at hc3 hl hel ⊢
  rw [used_eq 0 (1 + v2) l (by omega) (by omega) hel, Option.bind_some]
  have hsum := sum_range hel
  have hm : 0 ≤ (1 + v2) * (l.length : Int) ∧ (1 + v2) * (l.length : Int) ≤ 30 := by
    constructor
    · exact Int.mul_nonneg (by omega) (by omega)
    · calc (1 + v2) * (l.length : Int) ≤ 3 * (l.length : Int) := Int.mul_le_mul_of_nonneg_right (by omega) (by omega)
        _ ≤ 30 := by omega
  obtain ⟨v4, c4, e4, hc4, s1, s2, s3⟩ := pick_ok hs hc3 (by omega) 20
  rw [e4, Option.bind_some]
  obtain ⟨v5, c5, e5, hc5, t1, t2, t3⟩ := pick_ok hs hc4 (by omega) 14
  rw [e5, Option.bind_some]
  unfold spec_l1Cur_timed_j2
  dsimp only
  split
  · obtain ⟨v6, c6, e6, hc6, _⟩ := among_ok hs hc5 (by omega) [(0 : Int), 200, 201, 1] (by simp) (by simp)
    rw [e6, Option.bind_some]
    exact ⟨_, _, _, _, rfl, hc6.mono (by omega), by omega, by omega⟩
  · split
    · obtain ⟨v6, c6, e6, hc6, _⟩ := among_ok hs hc5 (by omega) [(0 : Int), 20, 21] (by simp) (by simp)
      rw [e6, Option.bind_some]
      exact ⟨_, _, _, _, rfl, hc6.mono (by omega), by omega, by omega⟩
    · split
      · obtain ⟨v6, c6, e6, hc6, u1, u2, u3⟩ := pick_ok hs hc5 (by omega) 2
        have := u2 (by omega)
        rw [e6, Option.bind_some, w64_id (x := 12 + v6) (by omega) (by omega), mk_ok (by omega) (by omega) (by omega), Option.bind_some]
        exact ⟨_, _, _, _, rfl, hc6.mono (by omega), by simp; omega, by simp; omega⟩
      · exact ⟨_, _, _, _, rfl, hc5.mono (by omega), by omega, by omega⟩

theorem row_loop {s : List Int} (hs : Bytes s) {K : Int} (hK : K ≤ 1099511627000) (v79 : (Int × Int × List Int) × (List Int × Int × Int)) (v80 : Int × (List Int × Int × Int)) (hl : v79.1.2.2.length ≤ 13) : ∀ (n : Nat) (x : List Int × Int × Int × List Int × Int),
    (Cur s (x.1, x.2.1, x.2.2.1) (K - 2 * (n : Int)) ∧ 0 ≤ x.2.2.2.2 ∧ x.2.2.2.2 + (n : Int) = (v79.1.2.2.length : Int) ∧ (x.2.2.2.1.length : Int) = x.2.2.2.2) → ∃ r, iter (spec_l1Cur_wished_s2 v79 v80) x = some r ∧ Cur s (r.1, r.2.1, r.2.2.1) K ∧ r.2.2.2.length = v79.1.2.2.length := by
  refine iter_ex _ _ ?_
  rintro n ⟨a, b, c, l, x⟩ ⟨h1, h2, h3, h4⟩
  dsimp only at h1 h2 h3 h4 ⊢
  unfold spec_l1Cur_wished_s2
  dsimp only
  by_cases hx : x < (v79.1.2.2.length : Int)
  · right
    obtain ⟨v, c', e, hc, q1, q2, q3⟩ := pick_ok hs h1 (by omega) v80.1
    obtain ⟨m, rfl⟩ : ∃ m, n = m + 1 := ⟨n - 1, by omega⟩
    rw [if_pos (by simpa using hx), e, Option.bind_some, app_ok (by simp; omega), Option.bind_some]
    refine ⟨_, m, by omega, rfl, hc.mono (by omega), ?_, ?_, ?_⟩
    · dsimp only; rw [w64_id (by omega) (by omega)]; omega
    · dsimp only; rw [w64_id (by omega) (by omega)]; omega
    · dsimp only; rw [w64_id (by omega) (by omega)]; simp; omega
  · left
    rw [if_neg (by simpa using hx)]
    exact ⟨_, rfl, h1.mono (by omega), by dsimp only; omega⟩

theorem rows_loop {s : List Int} (hs : Bytes s) {K : Int} (hK : K ≤ 1099511627000) (v79 : (Int × Int × List Int) × (List Int × Int × Int)) (v80 : Int × (List Int × Int × Int)) (hl : v79.1.2.2.length ≤ 13) : ∀ (n : Nat) (x : List Int × Int × Int × List (List Int) × Int),
    (Cur s (x.1, x.2.1, x.2.2.1) (K - 30 * (n : Int)) ∧ x.2.2.2.2 = (n : Int) ∧ x.2.2.2.1.length + n ≤ 10 ∧ ∀ row ∈ x.2.2.2.1, row.length = v79.1.2.2.length) → ∃ r, iter (spec_l1Cur_wished_s1 v79 v80) x = some r ∧ Cur s (r.1, r.2.1, r.2.2.1) K ∧ r.2.2.2.length ≤ 10 ∧ ∀ row ∈ r.2.2.2, row.length = v79.1.2.2.length := by
  refine iter_ex _ _ ?_
  rintro n ⟨a, b, c, l, x⟩ ⟨h1, h2, h3, h4⟩
  dsimp only at h1 h2 h3 h4 ⊢
  unfold spec_l1Cur_wished_s1
  dsimp only
  by_cases hx : x > 0
  · right
    obtain ⟨m, rfl⟩ : ∃ m, n = m + 1 := ⟨n - 1, by omega⟩
    obtain ⟨⟨a', b', c', row⟩, e, hc, hr⟩ := row_loop hs (K := K - 30 * (m : Int)) (by omega) v79 v80 hl v79.1.2.2.length (a, b, c, [], 0) ⟨h1.mono (by omega), by simp, by simp, by simp⟩
    unfold spec_l1Cur_wished_l2
    rw [if_pos (by simpa using hx), e, Option.bind_some]
    dsimp only at hc hr ⊢
    rw [app_ok (by simp; omega), Option.bind_some]
    refine ⟨_, m, by omega, rfl, hc, ?_, ?_, ?_⟩
    · dsimp only; rw [w64_id (by omega) (by omega)]; omega
    · dsimp only; simp; omega
    · intro y hy
      rcases List.mem_append.1 hy with hy | hy
      · exact h4 y hy
      · obtain rfl := List.mem_singleton.1 hy
        exact hr
  · left
    rw [if_neg (by simpa using hx)]
    exact ⟨_, rfl, h1.mono (by omega), by dsimp only; omega, h4⟩

theorem wished_ok {s : List Int} (hs : Bytes s) {c : List Int × Int × Int} {k : Int} (hc : Cur s c k) (hk : k ≤ 1099511600000) : ∃ t w l ws c', spec_l1Cur_wished c = some (((t, w, l), ws), c') ∧ l.length ≤ 13 ∧ ws.length ≤ 10 ∧ ∀ row ∈ ws, row.length ≤ 14 := by
  unfold spec_l1Cur_wished
  obtain ⟨t, w, l, c1, e1, hc1, hl1, hl2⟩ := timed_ok hs hc (by omega)
  rw [e1, Option.bind_some]
  obtain ⟨v2, c2, e2, hc2, _⟩ := among_ok hs hc1 (by omega) [(2 : Int), 10, 60, 200] (by simp) (by simp)
  dsimp only
  rw [e2, Option.bind_some]
  obtain ⟨v3, c3, e3, hc3, p1, p2, p3⟩ := pick_ok hs hc2 (by omega) 6
  dsimp only
  rw [e3, Option.bind_some]
  have hv3 := p2 (by omega)
  obtain ⟨⟨a, b, cc, rows⟩, e4, hc4, hn, hr⟩ := rows_loop hs (K := k + 300) (by omega) ((t, w, l), c1) (v2, c2) hl2 v3.toNat (c3.1, c3.2.1, c3.2.2, [], v3) ⟨hc3.mono (by omega), by dsimp only; omega, by dsimp only; simp; omega, by simp⟩
  unfold spec_l1Cur_wished_l1
  rw [e4, Option.bind_some]
  dsimp only at hc4 hn hr ⊢
  have hfit : ∀ row ∈ rows, row.length ≤ 14 := fun row h => by have := hr row h; omega
  unfold spec_l1Cur_wished_j3
  dsimp only
  split
  · rename_i hpos
    have hpos' : 0 < rows.length := by simpa using hpos
    obtain ⟨v5, c5, e5, hc5, _⟩ := pick_ok hs hc4 (by omega) 12
    rw [e5, Option.bind_some]
    have h0 : at? rows 0 = some rows[0] := at_some (i := 0) hpos'
    have hlen0 := hr _ (List.getElem_mem hpos')
    have hset : ∀ (x : List Int), x.length ≤ 14 → ∀ row ∈ rows.set (0 : Int).toNat x, row.length ≤ 14 := by
      intro x hx row hrow
      rcases List.mem_or_eq_of_mem_set hrow with h | h
      · exact hfit row h
      · rw [h]; exact hx
    split
    · rw [h0, Option.bind_some, app_ok (by simp; omega), Option.bind_some]
      exact ⟨_, _, _, _, _, rfl, hl2, by simpa using hn, hset _ (by simp; omega)⟩
    · split
      · rw [h0, Option.bind_some]
        obtain ⟨v6, c6, e6, hc6, _⟩ := among_ok hs hc5 (by omega) [(-1 : Int), 200, 201] (by simp) (by simp)
        rw [e6, Option.bind_some, show at? rows[0] 0 = some (rows[0])[0] from at_some (i := 0) (by omega), Option.bind_some]
        exact ⟨_, _, _, _, _, rfl, hl2, by simpa using hn, hset _ (by simp; omega)⟩
      · exact ⟨_, _, _, _, _, rfl, hl2, hn, hfit⟩
  · exact ⟨_, _, _, _, _, rfl, hl2, hn, hfit⟩

theorem cur0 (s : List Int) : Cur s (s, 0, 0) 0 := ⟨rfl, Int.le_refl _, Int.le_refl _⟩
theorem drawTimed_ok {s : List Int} (hs : Bytes s) : ∃ t w l ws, spec_DrawTimedVisits s = some ((t, w, l), ws) ∧ l.length ≤ 13 ∧ ws.length ≤ 10 ∧ ∀ row ∈ ws, row.length ≤ 14 := by
  unfold spec_DrawTimedVisits
  obtain ⟨t, w, l, ws, c', e, h⟩ := wished_ok hs (cur0 s) (by omega)
  rw [e, Option.bind_some]
  exact ⟨t, w, l, ws, rfl, h⟩
theorem drawFixed_ok {s : List Int} (hs : Bytes s) : ∃ t w l x y, spec_DrawFixedWithin s = some ((t, w, l), x, y) ∧ l.length ≤ 13 := by
  unfold spec_DrawFixedWithin
  obtain ⟨v, c1, e1, hc1⟩ := one_ok hs (cur0 s) (by omega) 10
  rw [e1, Option.bind_some]
  obtain ⟨t, w, l, c2, e2, hc2, h1, h2⟩ := timed_ok hs hc1 (by omega)
  dsimp only
  rw [e2]
  simp only [Option.bind_some]
  obtain ⟨v3, c3, e3, hc3, _⟩ := pick_ok hs hc2 (by omega) 6
  obtain ⟨v4, c4, e4, hc4, _⟩ := among_ok hs hc3 (by omega) [(-1 : Int), 0, 100000, 100001] (by simp) (by simp)
  obtain ⟨v5, c5, e5, hc5, _⟩ := pick_ok hs hc2 (by omega) 5
  obtain ⟨v6, c6, e6, hc6, _⟩ := pick_ok hs hc5 (by omega) 256
  rw [e3, e5]
  simp only [Option.bind_some]
  rw [e4, e6]
  simp only [Option.bind_some]
  split
  · exact ⟨_, _, _, _, _, rfl, h2⟩
  · exact ⟨_, _, _, _, _, rfl, h2⟩
end Tr
end Go.Proofs.Ytoeddkfbhjmbmaa.Ev.Q2
