/- Slot rings: draws; no condition but that bytes are bytes. -/
import Derived.Test.YteeejellpcikkaaG5M9
set_option linter.unusedVariables false
set_option linter.unusedSimpArgs false
namespace Go.Proofs.Yteeejellpcikkaa.Ev.G5
open Go
set_option linter.unusedSimpArgs false
set_option linter.unusedVariables false

/-! #### draws -/
theorem slots_ok {s : List Int} (hs : Bytes s) {c : List Int × Int × Int} {k : Int} (hc : Cur s c k) (hk : k ≤ 1099511620000) : ∃ r c', spec_l1Cur_slots c = some (r, c') ∧ Cur s c' (k + 6) := by
  unfold spec_l1Cur_slots
  obtain ⟨v1, c1, e1, hc1⟩ := one_ok hs hc (by omega) 12
  rw [e1, Option.bind_some]
  dsimp only
  split
  · obtain ⟨v2, c2, e2, hc2, _⟩ := among_ok hs hc1 (by omega) [(0 : Int), 1, 2, 12, 13] (by simp) (by simp)
    obtain ⟨v3, c3, e3, hc3⟩ := one_ok hs hc2 (by omega) 2
    rw [e2, Option.bind_some, e3, Option.bind_some]
    exact ⟨_, _, rfl, hc3.mono (by omega)⟩
  · obtain ⟨v2, c2, e2, hc2, _⟩ := pick_ok hs hc1 (by omega) 5
    obtain ⟨v3, c3, e3, hc3⟩ := one_ok hs hc2 (by omega) 2
    rw [e2, Option.bind_some, e3, Option.bind_some]
    exact ⟨_, _, rfl, hc3.mono (by omega)⟩

theorem messages_loop {s : List Int} (hs : Bytes s) {K : Int} (hK : K ≤ 1099511627000) (r : Int × Bool) (hr : r.1 ≠ 0) : ∀ (n : Nat) (x : List Int × Int × Int × List Msg × Int × Int),
    (Cur s (x.1, x.2.1, x.2.2.1) (K - 6 * (n : Int)) ∧ x.2.2.2.2.2 = (n : Int) ∧ x.2.2.2.1.length + n ≤ 12) → ∃ q, iter (spec_l1Cur_messages_s1 r) x = some q ∧ Cur s (q.1, q.2.1, q.2.2.1) K ∧ q.2.2.2.length ≤ 12 := by
  refine iter_ex _ _ ?_
  rintro n ⟨a, b, c, l, y, x⟩ ⟨h1, h2, h3⟩
  dsimp only at h1 h2 h3 ⊢
  unfold spec_l1Cur_messages_s1
  dsimp only
  by_cases hx : x > 0
  · right
    obtain ⟨m, rfl⟩ : ∃ m, n = m + 1 := ⟨n - 1, by omega⟩
    obtain ⟨v1, c1, e1, hc1, _⟩ := pick_ok hs h1 (by omega) r.1
    obtain ⟨v2, c2, e2, hc2, _⟩ := pick_ok hs hc1 (by omega) (w64 (r.1 - 1))
    obtain ⟨v3, c3, e3, hc3, _⟩ := among_ok hs hc2 (by omega) [(0 : Int), 0, 0, 1, 3] (by simp) (by simp)
    rw [if_pos (by simpa using hx), e1, Option.bind_some, e2, Option.bind_some, nz_ok hr, Option.bind_some, app_ok (by simp; omega), Option.bind_some, e3, Option.bind_some]
    refine ⟨_, m, by omega, rfl, hc3.mono (by omega), ?_, ?_⟩
    · dsimp only; rw [w64_id (by omega) (by omega)]; omega
    · dsimp only; simp; omega
  · left
    rw [if_neg (by simpa using hx)]
    exact ⟨_, rfl, h1.mono (by omega), by dsimp only; omega⟩

theorem messages_fill {s : List Int} (hs : Bytes s) {K : Int} (hK : K ≤ 1099511627000) : ∀ (n : Nat) (x : List Int × Int × Int × List Msg),
    (Cur s (x.1, x.2.1, x.2.2.1) (K - 2 * (n : Int) - 2) ∧ 1 ≤ x.2.2.2.length ∧ x.2.2.2.length ≤ 21 ∧ n = 21 - x.2.2.2.length) → ∃ q, iter spec_l1Cur_messages_s3 x = some q ∧ Cur s (q.1, q.2.1, q.2.2.1) K ∧ q.2.2.2.length ≤ 21 := by
  refine iter_ex _ _ ?_
  rintro n ⟨a, b, c, l⟩ ⟨h1, h2, h3, rfl⟩
  dsimp only at h1 h2 h3 ⊢
  unfold spec_l1Cur_messages_s3
  dsimp only
  obtain ⟨v1, c1, e1, hc1, p1, p2, p3⟩ := pick_ok hs h1 (by omega) 2
  have hv := p2 (by omega)
  rw [e1, Option.bind_some]
  dsimp only
  rw [w64_id (x := 20 + v1) (by omega) (by omega)]
  by_cases hx : (l.length : Int) < 20 + v1
  · right
    rw [if_pos (by simpa using hx), w64_id (by omega) (by omega), at_getD (0, 0, 0) (by omega) (by omega), Option.bind_some, app_ok (by simp; omega), Option.bind_some]
    refine ⟨_, 21 - (l.length + 1), by omega, rfl, ?_, ?_, ?_, ?_⟩
    · dsimp only; exact hc1.mono (by omega)
    · dsimp only; simp
    · dsimp only; simp; omega
    · dsimp only; simp
  · left
    rw [if_neg (by simpa using hx)]
    exact ⟨_, rfl, by dsimp only; exact hc1.mono (by omega), by dsimp only; omega⟩

theorem messages_ok {s : List Int} (hs : Bytes s) {c : List Int × Int × Int} {k : Int} (hc : Cur s c k) (hk : k ≤ 1099511620000) (r : Int × Bool) : ∃ ms c', spec_l1Cur_messages r c = some (ms, c') ∧ Cur s c' (k + 300) ∧ ms.length ≤ 21 := by
  unfold spec_l1Cur_messages
  rw [good_eq, Option.bind_some]
  cases hg : inB 2 12 r.1 with
  | false => rw [if_pos (by rfl)]; exact ⟨_, _, rfl, hc.mono (by omega), by simp⟩
  | true =>
    rw [inB_iff] at hg
    rw [if_neg (by simp)]
    obtain ⟨v1, c1, e1, hc1, _⟩ := pick_ok hs hc (by omega) 3
    obtain ⟨v2, c2, e2, hc2, p1, p2, p3⟩ := pick_ok hs hc1 (by omega) 10
    have hv2 := p2 (by omega)
    rw [e1, Option.bind_some, e2, Option.bind_some]
    dsimp only
    obtain ⟨⟨a, b, d, l⟩, e3, hc3, hl⟩ := messages_loop hs (K := k + 100) (by omega) r (by omega) v2.toNat (c2.1, c2.2.1, c2.2.2, [], v1, v2) ⟨hc2.mono (by omega), by dsimp only; omega, by simp; omega⟩
    unfold spec_l1Cur_messages_l1
    rw [e3, Option.bind_some]
    dsimp only at hc3 hl ⊢
    have j2 : ∀ (c2 : List Int × Int × Int) (l : List Msg), Cur s c2 (k + 300) → l.length ≤ 21 → ∃ ms c', spec_l1Cur_messages_j2 (c2.1, c2.2.1, c2.2.2, l) = some (ms, c') ∧ Cur s c' (k + 300) ∧ ms.length ≤ 21 := fun c2 l h1 h2 => ⟨_, _, rfl, h1, h2⟩
    by_cases hpos : (l.length : Int) > 0
    · rw [if_pos (by simpa using hpos)]
      obtain ⟨v4, c4, e4, hc4, _⟩ := pick_ok hs hc3 (by omega) 14
      rw [e4, Option.bind_some]
      dsimp only
      split
      · rw [at_getD (0, 0, 0) (by omega) (by omega), Option.bind_some]
        obtain ⟨v5, c5, e5, hc5, _⟩ := among_ok hs hc4 (by omega) [(l.getD (Int.toNat 0) (0, 0, 0)).2.1, -1, r.1] (by simp) (by simp)
        rw [e5, Option.bind_some]
        exact j2 c5 _ (hc5.mono (by omega)) (by rw [List.length_set]; omega)
      · split
        · obtain ⟨v5, c5, e5, hc5, _⟩ := among_ok hs hc4 (by omega) [(-1 : Int), 100, 101] (by simp) (by simp)
          rw [e5, Option.bind_some, w64_id (by omega) (by omega), at_getD (0, 0, 0) (by omega) (by omega), Option.bind_some]
          exact j2 c5 _ (hc5.mono (by omega)) (by rw [List.length_set]; omega)
        · split
          · obtain ⟨⟨a', b', d', l'⟩, e5, hc5, hl'⟩ := messages_fill hs (K := k + 200) (by omega) (21 - l.length) (c4.1, c4.2.1, c4.2.2, l) ⟨hc4.mono (by omega), by dsimp only; omega, by dsimp only; omega, rfl⟩
            unfold spec_l1Cur_messages_l3
            rw [e5, Option.bind_some]
            exact j2 (a', b', d') l' (hc5.mono (by omega)) hl'
          · exact j2 c4 l (hc4.mono (by omega)) (by omega)
    · rw [if_neg (by simpa using hpos)]
      exact j2 (a, b, d) l (hc3.mono (by omega)) (by omega)

theorem slottedD_ok {s : List Int} (hs : Bytes s) {c : List Int × Int × Int} {k : Int} (hc : Cur s c k) (hk : k ≤ 1099511619000) : ∃ r ms c', spec_l1Cur_slotted c = some ((r, ms), c') ∧ Cur s c' (k + 400) ∧ ms.length ≤ 21 := by
  unfold spec_l1Cur_slotted
  obtain ⟨r, c1, e1, hc1⟩ := slots_ok hs hc (by omega)
  obtain ⟨ms, c2, e2, hc2, hl⟩ := messages_ok hs hc1 (by omega) r
  rw [e1, Option.bind_some, e2, Option.bind_some]
  exact ⟨_, _, _, rfl, hc2.mono (by omega), hl⟩
theorem cur0 (s : List Int) : Cur s (s, 0, 0) 0 := ⟨rfl, by simp, by simp⟩

/-! #### lists that are the same -/
theorem same_self (a : List Int) (ha : a.length ≤ 1000000) : laws_kSame a a = some true := by
  have key := iter_to (step := laws_kSame_s1 a a) (fun i => (i : Int)) a.length (r := .inl ()) (by
    intro i hi
    unfold laws_kSame_s1
    rw [if_pos (by simpa using hi), at_some hi, Option.bind_some, Option.bind_some, if_neg (by simp), w64_nat1 (by omega)]) (by
    unfold laws_kSame_s1
    rw [if_neg (by simp)])
  unfold laws_kSame laws_kSame_l1
  rw [if_neg (by simp)]
  have e0 : ((0 : Nat) : Int) = 0 := rfl
  rw [e0] at key
  rw [key]
  rfl
theorem big_ok (p0 p1 : List Int) (h0 : ∀ x ∈ p0, 0 ≤ x ∧ x < 256) (h1 : ∀ x ∈ p1, 0 ≤ x ∧ x < 256) : ∃ b, laws_big p0 p1 = some b ∧ (b = false → Bytes p0 ∧ Bytes p1) := by
  unfold laws_big
  by_cases h : (p0.length : Int) > 1048576
  · rw [if_pos (by simpa using h)]
    exact ⟨true, rfl, by simp⟩
  · rw [if_neg (by simpa using h), w64_id (by omega) (by omega)]
    refine ⟨_, rfl, fun hb => ?_⟩
    have hb := of_decide_eq_false hb
    exact ⟨⟨h0, by omega⟩, ⟨h1, by omega⟩⟩

end Go.Proofs.Yteeejellpcikkaa.Ev.G5
