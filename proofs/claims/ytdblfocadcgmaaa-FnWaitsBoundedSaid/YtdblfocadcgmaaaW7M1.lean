/- Draws from bytes; no condition but what each names. -/
import Derived.Test.YtdblfocadcgmaaaEvC
import Derived.Test.YtdblfocadcgmaaaW78
set_option linter.unusedVariables false
set_option linter.unusedSimpArgs false
namespace Go.Proofs.Ytdblfocadcgmaaa.Ev.W7
open Go

theorem and255 (a : Int) : 0 ≤ andK .u64 a 255 ∧ andK .u64 a 255 ≤ 255 := by
  have hb : IntKind.bits .u64 = 64 := rfl
  unfold andK
  generalize hx : (BitVec.ofInt (IntKind.bits .u64) a &&& BitVec.ofInt (IntKind.bits .u64) 255).toNat = n
  have hn : n ≤ 255 := by
    rw [← hx, BitVec.toNat_and]
    have : (BitVec.ofInt (IntKind.bits .u64) 255).toNat = 255 := by decide
    rw [this]
    exact Nat.and_le_right
  have hs : IntKind.signed .u64 = false := rfl
  have h1 : (2 : Int) ^ 64 = 18446744073709551616 := by decide
  unfold IntKind.wrap
  simp only [hb, hs, h1, Bool.false_and]
  rw [if_neg (by simp)]
  omega

def Bytes (s : List Int) : Prop := (∀ x ∈ s, 0 ≤ x ∧ x < 256) ∧ s.length ≤ 1048576
structure Cur (s : List Int) (c : List Int × Int × Int) (k : Int) : Prop where
  s : c.1 = s
  lo : 0 ≤ c.2.1
  hi : c.2.1 ≤ k

theorem Cur.mono {s : List Int} {c : List Int × Int × Int} {k k' : Int} (h : Cur s c k) (hk : k ≤ k') : Cur s c k' := ⟨h.s, h.lo, Int.le_trans h.hi hk⟩

theorem next_ok {s : List Int} (hs : Bytes s) {c : List Int × Int × Int} {k : Int} (hc : Cur s c k) (hk : k ≤ 1099511627776) : ∃ v c', spec_l1Cur_next c = some (v, c') ∧ Cur s c' (k + 1) ∧ 0 ≤ v ∧ v ≤ 255 := by
  obtain ⟨s', a, sd⟩ := c
  obtain ⟨h1, h2, h3⟩ := hc
  dsimp only at h1 h2 h3
  subst h1
  have hl := hs.2
  have ha : w64 (a + 1) = a + 1 := w64_id (by omega) (by omega)
  have j1 : ∀ x : Int, 0 ≤ x → x ≤ 255 → ∃ v c', spec_l1Cur_next_j1 (s', a, sd) x = some (v, c') ∧ Cur s' c' (k + 1) ∧ 0 ≤ v ∧ v ≤ 255 := by
    intro x hx0 hx1
    unfold spec_l1Cur_next_j1
    simp only [Option.bind_some, ha]
    split
    · exact ⟨_, _, rfl, ⟨rfl, by dsimp only; omega, by dsimp only; omega⟩, hx0, hx1⟩
    · refine ⟨_, _, rfl, ⟨rfl, by dsimp only; omega, by dsimp only; omega⟩, ?_⟩
      generalize hq : andK _ _ _ = q
      have := and255 (Int.fdiv (IntKind.wrap .u64 (IntKind.wrap .u64 (IntKind.wrap .u64 (sd * 6364136223846793005) + IntKind.wrap .u64 x) + 1442695040888963407)) (2 ^ 40))
      rw [hq] at this
      rw [w64_id (by omega) (by omega)]
      exact this
  unfold spec_l1Cur_next
  dsimp only
  by_cases hlt : a < (s'.length : Int)
  · rw [if_pos (by simpa using hlt), at_getD 0 h2 hlt, Option.bind_some]
    have hm := hs.1 _ (show s'.getD a.toNat 0 ∈ s' by
      rw [List.getD_eq_getElem?_getD, List.getElem?_eq_getElem (by omega)]; exact List.getElem_mem _)
    rw [w64_id (by omega) (by omega)]
    exact j1 _ hm.1 (by omega)
  · rw [if_neg (by simpa using hlt)]
    exact j1 0 (by omega) (by omega)

theorem pick_ok {s : List Int} (hs : Bytes s) {c : List Int × Int × Int} {k : Int} (hc : Cur s c k) (hk : k ≤ 1099511627775) (n : Int) : ∃ v c', spec_l1Cur_pick n c = some (v, c') ∧ Cur s c' (k + 2) ∧ 0 ≤ v ∧ (1 < n → v < n) ∧ (n ≤ 1 → v = 0) := by
  unfold spec_l1Cur_pick
  by_cases h1 : n ≤ 1
  · rw [if_pos (by simpa using h1)]
    exact ⟨0, c, rfl, hc.mono (by omega), by omega, by omega, fun _ => rfl⟩
  · rw [if_neg (by simpa using h1)]
    obtain ⟨v, c1, e1, hc1, q1, q2⟩ := next_ok hs hc (by omega)
    rw [e1, Option.bind_some]
    dsimp only
    have fin : ∀ (x : Int) (c2 : List Int × Int × Int), 0 ≤ x → Cur s c2 (k + 2) → ∃ v c', spec_l1Cur_pick_j1 n (c2.1, c2.2.1, c2.2.2, x) = some (v, c') ∧ Cur s c' (k + 2) ∧ 0 ≤ v ∧ (1 < n → v < n) ∧ (n ≤ 1 → v = 0) := by
      intro x c2 hx hc2
      refine ⟨Int.tmod x n, c2, ?_, hc2, Int.tmod_nonneg _ hx, fun _ => Int.tmod_lt_of_pos _ (by omega), fun h => absurd h h1⟩
      unfold spec_l1Cur_pick_j1
      dsimp only
      rw [nz_ok (by omega), Option.bind_some]
    split
    · obtain ⟨v2, c2, e2, hc2, r1, r2⟩ := next_ok hs hc1 (by omega)
      rw [e2, Option.bind_some]
      dsimp only
      have : w64 (w64 (v * 256) + v2) = v * 256 + v2 := by rw [w64_id (x := v * 256) (by omega) (by omega), w64_id (by omega) (by omega)]
      rw [this]
      exact fin _ c2 (by omega) (hc2.mono (by omega))
    · exact fin _ c1 q1 (hc1.mono (by omega))

theorem among_ok {s : List Int} (hs : Bytes s) {c : List Int × Int × Int} {k : Int} (hc : Cur s c k) (hk : k ≤ 1099511627775) (l : List Int) (hl : 1 ≤ l.length) (hl2 : l.length ≤ 1000) : ∃ v c', spec_l1Cur_among l c = some (v, c') ∧ Cur s c' (k + 2) ∧ v ∈ l := by
  unfold spec_l1Cur_among
  obtain ⟨v, c1, e1, hc1, q1, q2, q3⟩ := pick_ok hs hc hk (l.length : Int)
  rw [e1, Option.bind_some]
  dsimp only
  have hv : v < l.length := by
    rcases Nat.lt_or_ge 1 l.length with h | h
    · exact q2 (by omega)
    · have := q3 (by omega); omega
  rw [at_getD 0 q1 hv, Option.bind_some]
  refine ⟨_, c1, rfl, hc1, ?_⟩
  rw [List.getD_eq_getElem?_getD, List.getElem?_eq_getElem (by omega)]
  exact List.getElem_mem _

theorem one_ok {s : List Int} (hs : Bytes s) {c : List Int × Int × Int} {k : Int} (hc : Cur s c k) (hk : k ≤ 1099511627775) (n : Int) : ∃ v c', spec_l1Cur_one n c = some (v, c') ∧ Cur s c' (k + 2) := by
  unfold spec_l1Cur_one
  obtain ⟨v, c1, e1, hc1, q1, q2, q3⟩ := pick_ok hs hc hk n
  rw [e1, Option.bind_some]
  exact ⟨_, _, rfl, hc1⟩
end Go.Proofs.Ytdblfocadcgmaaa.Ev.W7
