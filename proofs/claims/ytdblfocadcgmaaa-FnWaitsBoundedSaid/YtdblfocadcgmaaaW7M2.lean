/- Token rings: searches, what is a token ring and what are calls; no condition but lengths. -/
import Derived.Test.YtdblfocadcgmaaaW7M1
set_option linter.unusedVariables false
set_option linter.unusedSimpArgs false
namespace Go.Proofs.Ytdblfocadcgmaaa.Ev.W7
open Go
set_option linter.unusedSimpArgs false
set_option linter.unusedVariables false

theorem w64_nat1 {i : Nat} (h : i ≤ 4611686018427387904) : w64 ((i : Int) + 1) = ((i + 1 : Nat) : Int) := by rw [w64_id (by omega) (by omega)]; omega

/-- A search through a list that ends at the first of its kind. -/
theorem iter_find {α σ ρ : Type} {step : σ → Option (σ ⊕ ρ)} (xs : List α) (S : Nat → σ) (p : α → Nat → Bool) (rf : Nat → ρ) (re : ρ)
    (hgo : ∀ i x, i < xs.length → xs[i]? = some x → p x i = false → step (S i) = some (.inl (S (i + 1)))) (hf : ∀ i x, i < xs.length → xs[i]? = some x → p x i = true → step (S i) = some (.inr (rf i))) (hend : step (S xs.length) = some (.inr re)) :
    (∃ i x, i < xs.length ∧ xs[i]? = some x ∧ p x i = true ∧ (∀ j y, j < i → xs[j]? = some y → p y j = false) ∧ iter step (S 0) = some (rf i)) ∨ ((∀ j y, xs[j]? = some y → p y j = false) ∧ iter step (S 0) = some re) := by
  have key : ∀ (n k : Nat), k + n = xs.length → (∀ j y, j < k → xs[j]? = some y → p y j = false) → (∃ i x, i < xs.length ∧ xs[i]? = some x ∧ p x i = true ∧ (∀ j y, j < i → xs[j]? = some y → p y j = false) ∧ iter step (S k) = some (rf i)) ∨ ((∀ j y, xs[j]? = some y → p y j = false) ∧ iter step (S k) = some re) := by
    intro n
    induction n with
    | zero =>
      intro k hk hb
      have hk : k = xs.length := by omega
      subst hk
      refine .inr ⟨fun j y hj => hb j y ?_ hj, iter_stop hend⟩
      obtain ⟨h, _⟩ := List.getElem?_eq_some_iff.1 hj
      exact h
    | succ n ih =>
      intro k hk hb
      have hkl : k < xs.length := by omega
      have hx : xs[k]? = some xs[k] := List.getElem?_eq_getElem hkl
      cases hp : p xs[k] k with
      | true => exact .inl ⟨k, _, hkl, hx, hp, hb, iter_stop (hf k _ hkl hx hp)⟩
      | false =>
        rw [iter_go (hgo k _ hkl hx hp)]
        refine ih (k + 1) (by omega) fun j y hj hy => ?_
        rcases Nat.lt_or_ge j k with h | h
        · exact hb j y h hy
        · obtain rfl : j = k := by omega
          rw [hx] at hy
          obtain rfl := by simpa using hy
          exact hp
  exact key xs.length 0 (by omega) (by intro j y hj; omega)

def inB (lo hi x : Int) : Bool := decide (lo ≤ x) && decide (x ≤ hi)
theorem inB_iff {lo hi x : Int} : inB lo hi x = true ↔ lo ≤ x ∧ x ≤ hi := by simp [inB]
theorem within_eq (x lo hi : Int) : impl_within x lo hi = some (inB lo hi x) := by
  unfold impl_within inB
  by_cases h : lo ≤ x <;> simp [h]
theorem l1In_eq (x lo hi : Int) : spec_l1In x lo hi = some (inB lo hi x) := by
  unfold spec_l1In inB
  by_cases h : lo ≤ x <;> simp [h]

theorem two_eq (a b lo hi : Int) : impl_allWithin [a, b] lo hi = some (inB lo hi a && inB lo hi b) := by
  have h := iter_find (step := slices_IndexFunc_s1 [a, b]) [a, b] (fun i => (lo, hi, (i : Int))) (fun x _ => !inB lo hi x) (fun i => .inr ((i : Int), lo, hi)) (.inl (lo, hi))
    (fun i x hi' hx hp => by
      have hp : inB lo hi x = true := by simpa using hp
      have hi' : (i : Int) < 2 := by simp at hi'; omega
      simp [slices_IndexFunc_s1, hi', at_eq, hx, impl_allWithin_fn1, within_eq, hp, w64_nat1 (show i ≤ 4611686018427387904 by omega)])
    (fun i x hi' hx hp => by
      have hp : inB lo hi x = false := by simpa using hp
      have hi' : (i : Int) < 2 := by simp at hi'; omega
      simp [slices_IndexFunc_s1, hi', at_eq, hx, impl_allWithin_fn1, within_eq, hp])
    (by simp [slices_IndexFunc_s1])
  unfold impl_allWithin slices_ContainsFunc slices_IndexFunc slices_IndexFunc_l1
  rcases h with ⟨i, x, h1, h2, h3, h4, h5⟩ | ⟨h1, h2⟩
  · simp only [Int.natCast_zero] at h5
    have hx : (inB lo hi a && inB lo hi b) = false := by
      have hm := List.mem_of_getElem? h2
      have h3 : inB lo hi x = false := by simpa using h3
      simp at hm
      rcases hm with rfl | rfl
      · simp [h3]
      · simp [h3]
    rw [hx]
    simp [h5]
  · simp only [Int.natCast_zero] at h2
    have ha := h1 0 a rfl
    have hb := h1 1 b rfl
    simp at ha hb
    simp [h2, ha, hb]

abbrev Call := Int × Int × Int
/-- A call of a ring. -/
def callB (n : Int) (m : Call) : Bool := inB 0 1000 m.1 && (inB 0 (w64 (n - 1)) m.2.1 && inB 0 (w64 (n - 1)) m.2.2)
/-- Does the call at an index follow on the one ahead of it? -/
def aftB (ms : List Call) (m : Call) (i : Nat) : Bool := if 0 < i then decide ((ms.getD (i - 1) (0, 0, 0)).1 ≤ m.1) else true
def okAt (n : Int) (ms : List Call) (m : Call) (i : Nat) : Bool := callB n m && aftB ms m i
def allOk (n : Int) (ms : List Call) : Bool := (List.range ms.length).all fun i => okAt n ms (ms.getD i (0, 0, 0)) i
def ringB (r : Int × Int × Int) : Bool := inB 2 12 r.1 && (inB 1 10 r.2.1 && inB 1 10 r.2.2)
def calledB (r : Int × Int × Int) (ms : List Call) : Bool := ringB r && (allOk r.1 ms && decide (ms.length ≤ 20))
theorem ring_eq (r : Int × Int × Int) : impl_IsTokenRing r = some (ringB r) := by
  unfold impl_IsTokenRing impl_isRingSize ringB
  simp only [within_eq, Option.bind_some]
  cases inB 2 12 r.1 <;> cases inB 1 10 r.2.1 <;> simp
theorem good_eq (r : Int × Int × Int) : spec_tkGood r = some (ringB r) := by
  unfold spec_tkGood ringB
  simp only [l1In_eq, Option.bind_some]
  cases inB 2 12 r.1 <;> cases inB 1 10 r.2.1 <;> simp
theorem tick_eq (n : Int) : impl_isTick n = some (inB 0 1000 n) := by simp [impl_isTick, within_eq]

theorem allOk_true {n : Int} {ms : List Call} (h : ∀ i m, ms[i]? = some m → okAt n ms m i = true) : allOk n ms = true := by
  unfold allOk
  rw [List.all_eq_true]
  intro i hi
  rw [List.mem_range] at hi
  exact h i _ (by rw [List.getD_eq_getElem?_getD, List.getElem?_eq_getElem hi]; rfl)
theorem allOk_false {n : Int} {ms : List Call} {i : Nat} {m : Call} (h1 : ms[i]? = some m) (h2 : okAt n ms m i = false) : allOk n ms = false := by
  cases h : allOk n ms with
  | false => rfl
  | true =>
    unfold allOk at h
    rw [List.all_eq_true] at h
    obtain ⟨hl, rfl⟩ := List.getElem?_eq_some_iff.1 h1
    have := h i (by rw [List.mem_range]; exact hl)
    rw [List.getD_eq_getElem?_getD, List.getElem?_eq_getElem hl, Option.getD_some, h2] at this
    cases this

theorem areCalls_eq (n : Int) (ms : List Call) (hl : ms.length ≤ 1000000) : impl_areCalls n ms = some (allOk n ms && decide (ms.length ≤ 20)) := by
  have step : ∀ i m, i < ms.length → ms[i]? = some m → impl_areCalls_s1 n ms (i : Int) = if okAt n ms m i then some (.inl ((i + 1 : Nat) : Int)) else some (.inr (.inr false)) := by
    intro i m hi hm
    have hw := w64_nat1 (show i ≤ 4611686018427387904 by omega)
    have j2t : impl_areCalls_j2 (i : Int) true = some (.inr (.inr false)) := by simp [impl_areCalls_j2]
    have j2f : impl_areCalls_j2 (i : Int) false = some (.inl ((i + 1 : Nat) : Int)) := by simp [impl_areCalls_j2, hw]
    unfold impl_areCalls_s1
    rw [if_pos (by simpa using hi), at_eq, hm, Option.bind_some, tick_eq, Option.bind_some]
    unfold okAt callB
    cases h1 : inB 0 1000 m.1 with
    | false => simp [j2t]
    | true =>
      rw [if_neg (by simp), two_eq, Option.bind_some]
      cases h2 : (inB 0 (w64 (n - 1)) m.2.1 && inB 0 (w64 (n - 1)) m.2.2) with
      | false => simp [j2t]
      | true =>
        rw [if_neg (by simp)]
        by_cases h4 : 0 < i
        · have e1 : w64 ((i : Int) - 1) = ((i - 1 : Nat) : Int) := by rw [w64_id (by omega) (by omega)]; omega
          have hi1 : i - 1 < ms.length := by omega
          rw [if_pos (by simpa using h4), e1, at_eq, List.getElem?_eq_getElem hi1, Option.bind_some]
          have e2 : ms.getD (i - 1) (0, 0, 0) = ms[i - 1] := by rw [List.getD_eq_getElem?_getD, List.getElem?_eq_getElem hi1]; rfl
          have e3 : aftB ms m i = decide (ms[i - 1].1 ≤ m.1) := by unfold aftB; rw [if_pos h4, e2]
          rw [e3]
          by_cases h5 : ms[i - 1].1 ≤ m.1
          · rw [show decide (ms[i - 1].1 > m.1) = false by simp; omega, j2f]; simp [h5]
          · rw [show decide (ms[i - 1].1 > m.1) = true by simp; omega, j2t]; simp [h5]
        · rw [if_neg (by simpa using h4), j2f]
          simp [aftB, h4]
  have h := iter_find (step := impl_areCalls_s1 n ms) ms (fun i => (i : Int)) (fun m i => !okAt n ms m i) (fun _ => .inr false) (.inl ())
    (fun i m hi hm hp => by rw [step i m hi hm, if_pos (by simpa using hp)])
    (fun i m hi hm hp => by rw [step i m hi hm, if_neg (by simpa using hp)])
    (by simp [impl_areCalls_s1])
  unfold impl_areCalls impl_areCalls_l1
  rcases h with ⟨i, m, h1, h2, h3, h4, h5⟩ | ⟨h1, h2⟩
  · simp only [Int.natCast_zero] at h5
    rw [h5, allOk_false h2 (by simpa using h3)]; rfl
  · simp only [Int.natCast_zero] at h2
    rw [h2, allOk_true fun i m hm => by simpa using h1 i m hm]
    simp only [Option.bind_some, Bool.true_and]
    congr 1
    simp only [decide_eq_decide]
    omega

theorem called_eq (r : Int × Int × Int) (ms : List Call) (hl : ms.length ≤ 1000000) : impl_isCalled r ms = some (calledB r ms) := by
  unfold impl_isCalled calledB
  rw [ring_eq, Option.bind_some]
  cases h : ringB r with
  | false => simp
  | true => simp [areCalls_eq r.1 ms hl]

theorem tkCalls_eq (r : Int × Int × Int) (ms : List Call) (hl : ms.length ≤ 1000000) : spec_tkCalls r ms = some (calledB r ms) := by
  have step : ∀ i m, i < ms.length → ms[i]? = some m → spec_tkCalls_s2 r ms (i : Int) = if okAt r.1 ms m i then some (.inl ((i + 1 : Nat) : Int)) else some (.inr (.inr false)) := by
    intro i m hi hm
    have hw := w64_nat1 (show i ≤ 4611686018427387904 by omega)
    have j4t : spec_tkCalls_j4 (i : Int) true = some (.inr (.inr false)) := by simp [spec_tkCalls_j4]
    have j4f : spec_tkCalls_j4 (i : Int) false = some (.inl ((i + 1 : Nat) : Int)) := by simp [spec_tkCalls_j4, hw]
    have j3t : spec_tkCalls_j3 ms (i : Int) m true = some (.inr (.inr false)) := by simp [spec_tkCalls_j3]
    have j3f : spec_tkCalls_j3 ms (i : Int) m false = if aftB ms m i then some (.inl ((i + 1 : Nat) : Int)) else some (.inr (.inr false)) := by
      unfold spec_tkCalls_j3
      rw [if_neg (by simp)]
      by_cases h4 : 0 < i
      · have e1 : w64 ((i : Int) - 1) = ((i - 1 : Nat) : Int) := by rw [w64_id (by omega) (by omega)]; omega
        have hi1 : i - 1 < ms.length := by omega
        rw [if_pos (by simpa using h4), e1, at_eq, List.getElem?_eq_getElem hi1, Option.bind_some]
        have e2 : ms.getD (i - 1) (0, 0, 0) = ms[i - 1] := by rw [List.getD_eq_getElem?_getD, List.getElem?_eq_getElem hi1]; rfl
        have e3 : aftB ms m i = decide (ms[i - 1].1 ≤ m.1) := by unfold aftB; rw [if_pos h4, e2]
        rw [e3]
        by_cases h5 : ms[i - 1].1 ≤ m.1
        · rw [show decide (ms[i - 1].1 > m.1) = false by simp; omega, j4f]; simp [h5]
        · rw [show decide (ms[i - 1].1 > m.1) = true by simp; omega, j4t]; simp [h5]
      · rw [if_neg (by simpa using h4), j4f]
        simp [aftB, h4]
    unfold spec_tkCalls_s2
    rw [if_pos (by simpa using hi), at_eq, hm, Option.bind_some, l1In_eq, Option.bind_some]
    unfold okAt callB
    cases h1 : inB 0 1000 m.1 with
    | false => simp [j3t]
    | true =>
      rw [if_neg (by simp), l1In_eq, Option.bind_some]
      cases h2 : inB 0 (w64 (r.1 - 1)) m.2.1 with
      | false => simp [j3t]
      | true =>
        rw [if_neg (by simp), l1In_eq, Option.bind_some]
        cases h3 : inB 0 (w64 (r.1 - 1)) m.2.2 with
        | false => simp [j3t]
        | true => simp [j3f]
  have h := iter_find (step := spec_tkCalls_s2 r ms) ms (fun i => (i : Int)) (fun m i => !okAt r.1 ms m i) (fun _ => .inr false) (.inl ())
    (fun i m hi hm hp => by rw [step i m hi hm, if_pos (by simpa using hp)])
    (fun i m hi hm hp => by rw [step i m hi hm, if_neg (by simpa using hp)])
    (by simp [spec_tkCalls_s2])
  unfold spec_tkCalls calledB
  rw [good_eq, Option.bind_some]
  cases hg : ringB r with
  | false => simp [spec_tkCalls_j1]
  | true =>
    rw [if_neg (by simp)]
    by_cases hlen : ms.length ≤ 20
    · rw [show decide ((ms.length : Int) > 20) = false by simp; omega]
      unfold spec_tkCalls_j1 spec_tkCalls_l2
      rw [if_neg (by simp)]
      rcases h with ⟨i, m, h1, h2, h3, h4, h5⟩ | ⟨h1, h2⟩
      · simp only [Int.natCast_zero] at h5
        rw [h5, allOk_false h2 (by simpa using h3)]; rfl
      · simp only [Int.natCast_zero] at h2
        rw [h2, allOk_true fun i m hm => by simpa using h1 i m hm]
        simp [hlen]
    · rw [show decide ((ms.length : Int) > 20) = true by simp; omega]
      simp [spec_tkCalls_j1, hlen]
end Go.Proofs.Ytdblfocadcgmaaa.Ev.W7
