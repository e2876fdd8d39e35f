/- Timed rings and wishes: what the program and the reference tell; no condition but what each names. -/
import Derived.Test.YtoeddkfbhjmbmaaQ2M1
set_option linter.unusedVariables false
set_option linter.unusedSimpArgs false
namespace Go.Proofs.Ytoeddkfbhjmbmaa.Ev.Q2
open Go
set_option linter.unusedSimpArgs false

theorem iter_list2 {α σ ρ : Type} {step : σ → Option (σ ⊕ ρ)} (xs : List α) (S : Nat → σ) (p : α → Bool) (rb : Nat → ρ) (re : ρ)
    (hgo : ∀ i x, i < xs.length → at? xs (i : Int) = some x → x ∈ xs → p x = true → step (S i) = some (.inl (S (i + 1)))) (hbad : ∀ i x, i < xs.length → at? xs (i : Int) = some x → x ∈ xs → p x = false → step (S i) = some (.inr (rb i))) (hend : step (S xs.length) = some (.inr re)) :
    (xs.all p = true ∧ iter step (S 0) = some re) ∨ (xs.all p = false ∧ ∃ i, i < xs.length ∧ iter step (S 0) = some (rb i)) := by
  have key : ∀ (ys : List α) (k : Nat), xs.drop k = ys → k ≤ xs.length → (ys.all p = true ∧ iter step (S k) = some re) ∨ (ys.all p = false ∧ ∃ i, i < xs.length ∧ iter step (S k) = some (rb i)) := by
    intro ys
    induction ys with
    | nil =>
      intro k h hk
      have : k = xs.length := by
        have := congrArg List.length h
        simp at this
        omega
      subst this
      exact .inl ⟨rfl, iter_stop hend⟩
    | cons y ys ih =>
      intro k h hk
      have hkl : k < xs.length := by
        rcases Nat.lt_or_ge k xs.length with h' | h'
        · exact h'
        · rw [List.drop_of_length_le h'] at h; cases h
      rw [List.drop_eq_getElem_cons hkl, List.cons.injEq] at h
      have hy : at? xs (k : Int) = some y := by rw [at_eq, List.getElem?_eq_getElem hkl, h.1]
      have hm : y ∈ xs := h.1 ▸ List.getElem_mem hkl
      cases hp : p y with
      | true =>
        rw [iter_go (hgo k y hkl hy hm hp)]
        rcases ih (k + 1) h.2 hkl with ⟨h1, h2⟩ | ⟨h1, h2⟩
        · exact .inl ⟨by simp [hp, h1], h2⟩
        · exact .inr ⟨by simp only [List.all_cons, hp, h1, Bool.and_false], h2⟩
      | false => exact .inr ⟨by simp only [List.all_cons, hp, Bool.false_and], k, hkl, iter_stop (hbad k y hkl hy hm hp)⟩
  exact key xs 0 rfl (by omega)

theorem w64_nat1 {i : Nat} (h : i ≤ 4611686018427387904) : w64 ((i : Int) + 1) = ((i + 1 : Nat) : Int) := by rw [w64_id (by omega) (by omega)]; omega

def inB (lo hi x : Int) : Bool := decide (lo ≤ x) && decide (x ≤ hi)
theorem inB_iff {lo hi x : Int} : inB lo hi x = true ↔ lo ≤ x ∧ x ≤ hi := by simp [inB]
theorem within_eq (x lo hi : Int) : impl_within x lo hi = some (inB lo hi x) := by
  unfold impl_within inB
  by_cases h : lo ≤ x <;> simp [h]
theorem l1In_eq (x lo hi : Int) : spec_l1In x lo hi = some (inB lo hi x) := by
  unfold spec_l1In inB
  by_cases h : lo ≤ x <;> simp [h]

theorem allWithin_eq (l : List Int) (lo hi : Int) (hl : l.length ≤ 1000000) : impl_allWithin l lo hi = some (l.all (inB lo hi)) := by
  have h := iter_list2 (step := slices_IndexFunc_s1 l) l (fun i => (lo, hi, (i : Int))) (inB lo hi) (fun i => .inr ((i : Int), lo, hi)) (.inl (lo, hi))
    (fun i x hi' hx hm hp => by simp [slices_IndexFunc_s1, hi', hx, impl_allWithin_fn1, within_eq, hp, w64_nat1 (show i ≤ 4611686018427387904 by omega)])
    (fun i x hi' hx hm hp => by simp [slices_IndexFunc_s1, hi', hx, impl_allWithin_fn1, within_eq, hp])
    (by simp [slices_IndexFunc_s1])
  unfold impl_allWithin slices_ContainsFunc slices_IndexFunc slices_IndexFunc_l1
  rcases h with ⟨h1, h2⟩ | ⟨h1, i, h2, h3⟩
  · simp only [Int.ofNat_zero, Int.natCast_zero] at h2
    rw [h1]
    simp [h2]
  · simp only [Int.natCast_zero] at h3
    rw [h1]
    simp [h3]

theorem l1All_eq (l : List Int) (lo hi : Int) (hl : l.length ≤ 1000000) : spec_l1All l lo hi = some (l.all (inB lo hi)) := by
  have h := iter_list2 (step := spec_l1All_s1 l lo hi) l (fun i => (i : Int)) (inB lo hi) (fun _ => .inr false) (.inl ())
    (fun i x hi' hx hm hp => by simp [spec_l1All_s1, hi', hx, l1In_eq, hp, w64_nat1 (show i ≤ 4611686018427387904 by omega)])
    (fun i x hi' hx hm hp => by simp [spec_l1All_s1, hi', hx, l1In_eq, hp])
    (by simp [spec_l1All_s1])
  unfold spec_l1All spec_l1All_l1
  rcases h with ⟨h1, h2⟩ | ⟨h1, i, h2, h3⟩
  · simp only [Int.natCast_zero] at h2
    rw [h1]
    simp [h2]
  · simp only [Int.natCast_zero] at h3
    rw [h1]
    simp [h3]

theorem sum_take {l : List Int} {i : Nat} (h : i < l.length) : (l.take (i + 1)).sum = (l.take i).sum + l[i] := by
  rw [List.take_succ_eq_append_getElem h, List.sum_append]; simp
theorem sum_take_range {l : List Int} (h : ∀ x ∈ l, 0 ≤ x ∧ x ≤ 200) : ∀ i : Nat, 0 ≤ (l.take i).sum ∧ (l.take i).sum ≤ 200 * (i : Int) := by
  intro i
  induction i with
  | zero => simp
  | succ i ih =>
    rcases Nat.lt_or_ge i l.length with hlt | hge
    · rw [sum_take hlt]
      have := h _ (List.getElem_mem hlt)
      omega
    · rw [List.take_of_length_le (by omega)]
      rw [List.take_of_length_le (by omega)] at ih
      omega
theorem sum_range {l : List Int} (h : ∀ x ∈ l, 0 ≤ x ∧ x ≤ 200) : 0 ≤ l.sum ∧ l.sum ≤ 200 * (l.length : Int) := by
  have := sum_take_range h l.length
  rwa [List.take_of_length_le (Nat.le_refl _)] at this

theorem used_eq (t w : Int) (l : List Int) (hl : l.length ≤ 1000) (hw : 0 ≤ w ∧ w ≤ 1000) (h : ∀ x ∈ l, 0 ≤ x ∧ x ≤ 200) : spec_boUsed (t, w, l) = some (w * (l.length : Int) + l.sum) := by
  have hm : 0 ≤ w * (l.length : Int) ∧ w * (l.length : Int) ≤ 1000000 := by
    constructor
    · exact Int.mul_nonneg hw.1 (by omega)
    · calc w * (l.length : Int) ≤ 1000 * (l.length : Int) := Int.mul_le_mul_of_nonneg_right hw.2 (by omega)
        _ ≤ 1000000 := by omega
  generalize hq : w * (l.length : Int) = q at hm ⊢
  have key := iter_to (step := spec_boUsed_s1 (t, w, l)) (fun i => (q + (l.take i).sum, (i : Int))) l.length (r := q + l.sum)
    (fun i hi => by
      have h1 := sum_take_range h i
      have h2 := h _ (List.getElem_mem hi)
      simp only [spec_boUsed_s1, Int.ofNat_lt, hi, decide_true, if_true, at_some hi, Option.bind_some, w64_nat1 (show i ≤ 4611686018427387904 by omega), sum_take hi]
      rw [w64_id (by omega) (by omega), Int.add_assoc])
    (by simp [spec_boUsed_s1])
  unfold spec_boUsed spec_boUsed_l1
  simp only [hq]
  rw [w64_id (by omega) (by omega)]
  simp only [List.take_zero, List.sum_nil, Int.add_zero, Int.natCast_zero] at key
  rw [key]
  rfl
theorem sumOf_eq (l : List Int) (hl : l.length ≤ 1000) (h : ∀ x ∈ l, 0 ≤ x ∧ x ≤ 200) : impl_sumOf l = some l.sum := by
  have key := iter_to (step := impl_sumOf_s1 l) (fun i => ((l.take i).sum, (i : Int))) l.length (r := l.sum)
    (fun i hi => by
      have h1 := sum_take_range h i
      have h2 := h _ (List.getElem_mem hi)
      simp only [impl_sumOf_s1, Int.ofNat_lt, hi, decide_true, if_true, at_some hi, Option.bind_some, w64_nat1 (show i ≤ 4611686018427387904 by omega), sum_take hi]
      rw [w64_id (by omega) (by omega)])
    (by simp [impl_sumOf_s1])
  unfold impl_sumOf impl_sumOf_l1
  simp only [List.take_zero, List.sum_nil, Int.natCast_zero] at key
  rw [key]
  rfl
theorem busy_eq (t w : Int) (l : List Int) (hl : l.length ≤ 1000) (hw : 0 ≤ w ∧ w ≤ 1000) (h : ∀ x ∈ l, 0 ≤ x ∧ x ≤ 200) : impl_TimedRing_busy (t, w, l) = some (w * (l.length : Int) + l.sum) := by
  have hm : 0 ≤ w * (l.length : Int) ∧ w * (l.length : Int) ≤ 1000000 := by
    constructor
    · exact Int.mul_nonneg hw.1 (by omega)
    · calc w * (l.length : Int) ≤ 1000 * (l.length : Int) := Int.mul_le_mul_of_nonneg_right hw.2 (by omega)
        _ ≤ 1000000 := by omega
  have hs := sum_range h
  unfold impl_TimedRing_busy
  simp only [sumOf_eq l hl h, Option.bind_some]
  rw [w64_id (x := w * (l.length : Int)) (by omega) (by omega), w64_id (by omega) (by omega), Int.add_comm]

def timedB (t w : Int) (l : List Int) : Bool := inB 1 12 (l.length : Int) && (inB 1 200 t && (inB 1 20 w && (l.all (inB 0 200) && decide (w * (l.length : Int) + l.sum ≤ t))))
theorem all_in {l : List Int} {lo hi : Int} (h : l.all (inB lo hi) = true) : ∀ x ∈ l, lo ≤ x ∧ x ≤ hi := fun x hx => inB_iff.1 (List.all_eq_true.1 h x hx)
theorem isTimed_eq (t w : Int) (l : List Int) (hl : l.length ≤ 1000000) : impl_IsTimedRing (t, w, l) = some (timedB t w l) := by
  unfold impl_IsTimedRing timedB
  simp only [within_eq, Option.bind_some, allWithin_eq l 0 200 hl]
  cases h1 : inB 1 12 (l.length : Int) <;> simp only [Bool.false_eq_true, if_false, if_true, Bool.false_and, Bool.true_and]
  cases h2 : inB 1 200 t <;> simp only [Bool.false_eq_true, if_false, if_true, Bool.false_and, Bool.true_and]
  cases h3 : inB 1 20 w <;> simp only [Bool.false_eq_true, if_false, if_true, Bool.false_and, Bool.true_and]
  cases h4 : l.all (inB 0 200) <;> simp only [Bool.false_eq_true, if_false, if_true, Bool.false_and, Bool.true_and]
  have := inB_iff.1 h1
  have := inB_iff.1 h3
  rw [busy_eq t w l (by omega) (by omega) (all_in h4)]
  rfl
theorem boTimed_eq (t w : Int) (l : List Int) (hl : l.length ≤ 1000000) : spec_boTimed (t, w, l) = some (timedB t w l) := by
  unfold spec_boTimed timedB
  simp only [l1In_eq, Option.bind_some, l1All_eq l 0 200 hl]
  cases h1 : inB 1 12 (l.length : Int) <;> simp only [Bool.not_true, Bool.not_false, Bool.false_eq_true, if_false, if_true, Bool.false_and, Bool.true_and, spec_boTimed_j1]
  cases h2 : inB 1 200 t <;> simp only [Bool.not_true, Bool.not_false, Bool.false_eq_true, if_false, if_true, Bool.false_and, Bool.true_and, spec_boTimed_j1]
  cases h3 : inB 1 20 w <;> simp only [Bool.not_true, Bool.not_false, Bool.false_eq_true, if_false, if_true, Bool.false_and, Bool.true_and, spec_boTimed_j1]
  cases h4 : l.all (inB 0 200) <;> simp only [Bool.not_true, Bool.not_false, Bool.false_eq_true, if_false, if_true, Bool.false_and, Bool.true_and, spec_boTimed_j1]
  have := inB_iff.1 h1
  have := inB_iff.1 h3
  rw [used_eq t w l (by omega) (by omega) (all_in h4)]
  rfl

def rowB (l row : List Int) : Bool := decide (row.length = l.length) && row.all (inB 0 200)
def wishedB (t w : Int) (l : List Int) (ws : List (List Int)) : Bool := timedB t w l && (decide (ws.length ≤ 20) && ws.all (rowB l))
theorem isWished_eq (t w : Int) (l : List Int) (ws : List (List Int)) (hl : l.length ≤ 1000000) (hw : ws.length ≤ 1000000) (hr : ∀ row ∈ ws, row.length ≤ 1000000) : impl_isWished (t, w, l) ws = some (wishedB t w l ws) := by
  have h := iter_list2 (step := impl_isWished_s1 (t, w, l) ws) ws (fun i => (i : Int)) (rowB l) (fun _ => .inr false) (.inl ())
    (fun i x hi' hx hm hp => by
      have hx' := hr x hm
      simp only [rowB, Bool.and_eq_true, decide_eq_true_eq] at hp
      simp [impl_isWished_s1, hi', hx, hp.1, allWithin_eq x 0 200 hx', hp.2, impl_isWished_j2, w64_nat1 (show i ≤ 4611686018427387904 by omega)])
    (fun i x hi' hx hm hp => by
      have hx' := hr x hm
      simp only [impl_isWished_s1, Int.ofNat_lt, hi', decide_true, if_true, hx, Option.bind_some, allWithin_eq x 0 200 hx']
      by_cases e : x.length = l.length
      · simp only [rowB, e, decide_true, Bool.true_and] at hp
        simp [e, hp, impl_isWished_j2]
      · have e' : ((x.length : Int) != (l.length : Int)) = true := by simp; omega
        rw [if_pos e']; rfl)
    (by simp [impl_isWished_s1])
  unfold impl_isWished impl_isWished_l1 wishedB
  simp only [isTimed_eq t w l hl, Option.bind_some]
  rcases h with ⟨h1, h2⟩ | ⟨h1, i, h2, h3⟩
  · simp only [Int.natCast_zero] at h2
    rw [h1, h2]
    cases timedB t w l <;> simp
    omega
  · simp only [Int.natCast_zero] at h3
    rw [h1, h3]
    simp
theorem boWishes_eq (t w : Int) (l : List Int) (ws : List (List Int)) (hl : l.length ≤ 1000000) (hw : ws.length ≤ 1000000) (hr : ∀ row ∈ ws, row.length ≤ 1000000) : spec_boWishes (t, w, l) ws = some (wishedB t w l ws) := by
  have h := iter_list2 (step := spec_boWishes_s2 (t, w, l) ws) ws (fun i => (i : Int)) (rowB l) (fun _ => .inr false) (.inl ())
    (fun i x hi' hx hm hp => by
      have hx' := hr x hm
      simp only [rowB, Bool.and_eq_true, decide_eq_true_eq] at hp
      simp [spec_boWishes_s2, hi', hx, hp.1, l1All_eq x 0 200 hx', hp.2, spec_boWishes_j3, w64_nat1 (show i ≤ 4611686018427387904 by omega)])
    (fun i x hi' hx hm hp => by
      have hx' := hr x hm
      simp only [spec_boWishes_s2, Int.ofNat_lt, hi', decide_true, if_true, hx, Option.bind_some, l1All_eq x 0 200 hx']
      by_cases e : x.length = l.length
      · simp only [rowB, e, decide_true, Bool.true_and] at hp
        simp [e, hp, spec_boWishes_j3]
      · have e' : ((x.length : Int) != (l.length : Int)) = true := by simp; omega
        rw [if_pos e']; rfl)
    (by simp [spec_boWishes_s2])
  unfold spec_boWishes wishedB spec_boWishes_j1 spec_boWishes_l2
  simp only [boTimed_eq t w l hl, Option.bind_some]
  cases timedB t w l
  · simp
  · simp only [Bool.not_true, Bool.false_eq_true, if_false, Bool.true_and]
    by_cases e : ws.length ≤ 20
    · have e' : decide ((ws.length : Int) > 20) = false := by simp; omega
      rw [e']
      rcases h with ⟨h1, h2⟩ | ⟨h1, i, h2, h3⟩
      · simp only [Int.natCast_zero] at h2
        rw [h1, h2]
        simp [e]
      · simp only [Int.natCast_zero] at h3
        rw [h1, h3]
        simp
    · have e' : decide ((ws.length : Int) > 20) = true := by simp; omega
      rw [e']
      simp [e]
end Go.Proofs.Ytoeddkfbhjmbmaa.Ev.Q2
