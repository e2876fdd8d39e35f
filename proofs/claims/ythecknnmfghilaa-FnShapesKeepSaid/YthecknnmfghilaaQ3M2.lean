/- Lists, searches and sums of laws; no condition but lengths. -/
import Derived.Test.YthecknnmfghilaaQ3M1
set_option linter.unusedVariables false
set_option linter.unusedSimpArgs false
namespace Go.Proofs.Ythecknnmfghilaa.Ev.Q3
open Go
set_option linter.unusedSimpArgs false
set_option linter.unusedVariables false
theorem iter_list2 {α σ ρ : Type} {step : σ → Option (σ ⊕ ρ)} (xs : List α) (S : Nat → σ) (p : α → Bool) (rb : Nat → ρ) (re : ρ)
    (hgo : ∀ i x, i < xs.length → at? xs (i : Int) = some x → x ∈ xs → p x = true → step (S i) = some (.inl (S (i + 1)))) (hbad : ∀ i x, i < xs.length → at? xs (i : Int) = some x → x ∈ xs → p x = false → step (S i) = some (.inr (rb i))) (hend : step (S xs.length) = some (.inr re)) :
    (xs.all p = true ∧ iter step (S 0) = some re) ∨ (xs.all p = false ∧ ∃ i, i < xs.length ∧ iter step (S 0) = some (rb i)) := by
  have key : ∀ (ys : List α) (k : Nat), xs.drop k = ys → k ≤ xs.length → (ys.all p = true ∧ iter step (S k) = some re) ∨ (ys.all p = false ∧ ∃ i, i < xs.length ∧ iter step (S k) = some (rb i)) := by
    intro ys
    induction ys with
    | nil =>
      intro k h hk
      have : k = xs.length := by
        have := congrArg List.length h
        simp at this
        omega
      subst this
      exact .inl ⟨rfl, iter_stop hend⟩
    | cons y ys ih =>
      intro k h hk
      have hkl : k < xs.length := by
        rcases Nat.lt_or_ge k xs.length with h' | h'
        · exact h'
        · rw [List.drop_of_length_le h'] at h; cases h
      rw [List.drop_eq_getElem_cons hkl, List.cons.injEq] at h
      have hy : at? xs (k : Int) = some y := by rw [at_eq, List.getElem?_eq_getElem hkl, h.1]
      have hm : y ∈ xs := h.1 ▸ List.getElem_mem hkl
      cases hp : p y with
      | true =>
        rw [iter_go (hgo k y hkl hy hm hp)]
        rcases ih (k + 1) h.2 hkl with ⟨h1, h2⟩ | ⟨h1, h2⟩
        · exact .inl ⟨by simp [hp, h1], h2⟩
        · exact .inr ⟨by simp only [List.all_cons, hp, h1, Bool.and_false], h2⟩
      | false => exact .inr ⟨by simp only [List.all_cons, hp, Bool.false_and], k, hkl, iter_stop (hbad k y hkl hy hm hp)⟩
  exact key xs 0 rfl (by omega)

theorem w64_nat1 {i : Nat} (h : i ≤ 4611686018427387904) : w64 ((i : Int) + 1) = ((i + 1 : Nat) : Int) := by rw [w64_id (by omega) (by omega)]; omega

def inB (lo hi x : Int) : Bool := decide (lo ≤ x) && decide (x ≤ hi)
theorem inB_iff {lo hi x : Int} : inB lo hi x = true ↔ lo ≤ x ∧ x ≤ hi := by simp [inB]
theorem within_eq (x lo hi : Int) : impl_within x lo hi = some (inB lo hi x) := by
  unfold impl_within inB
  by_cases h : lo ≤ x <;> simp [h]
theorem l1In_eq (x lo hi : Int) : spec_l1In x lo hi = some (inB lo hi x) := by
  unfold spec_l1In inB
  by_cases h : lo ≤ x <;> simp [h]

theorem allWithin_eq (l : List Int) (lo hi : Int) (hl : l.length ≤ 1000000) : impl_allWithin l lo hi = some (l.all (inB lo hi)) := by
  have h := iter_list2 (step := slices_IndexFunc_s1 l) l (fun i => (lo, hi, (i : Int))) (inB lo hi) (fun i => .inr ((i : Int), lo, hi)) (.inl (lo, hi))
    (fun i x hi' hx hm hp => by simp [slices_IndexFunc_s1, hi', hx, impl_allWithin_fn1, within_eq, hp, w64_nat1 (show i ≤ 4611686018427387904 by omega)])
    (fun i x hi' hx hm hp => by simp [slices_IndexFunc_s1, hi', hx, impl_allWithin_fn1, within_eq, hp])
    (by simp [slices_IndexFunc_s1])
  unfold impl_allWithin slices_ContainsFunc slices_IndexFunc slices_IndexFunc_l1
  rcases h with ⟨h1, h2⟩ | ⟨h1, i, h2, h3⟩
  · simp only [Int.ofNat_zero, Int.natCast_zero] at h2
    rw [h1]
    simp [h2]
  · simp only [Int.natCast_zero] at h3
    rw [h1]
    simp [h3]

theorem l1All_eq (l : List Int) (lo hi : Int) (hl : l.length ≤ 1000000) : spec_l1All l lo hi = some (l.all (inB lo hi)) := by
  have h := iter_list2 (step := spec_l1All_s1 l lo hi) l (fun i => (i : Int)) (inB lo hi) (fun _ => .inr false) (.inl ())
    (fun i x hi' hx hm hp => by simp [spec_l1All_s1, hi', hx, l1In_eq, hp, w64_nat1 (show i ≤ 4611686018427387904 by omega)])
    (fun i x hi' hx hm hp => by simp [spec_l1All_s1, hi', hx, l1In_eq, hp])
    (by simp [spec_l1All_s1])
  unfold spec_l1All spec_l1All_l1
  rcases h with ⟨h1, h2⟩ | ⟨h1, i, h2, h3⟩
  · simp only [Int.natCast_zero] at h2
    rw [h1]
    simp [h2]
  · simp only [Int.natCast_zero] at h3
    rw [h1]
    simp [h3]

theorem sum_take {l : List Int} {i : Nat} (h : i < l.length) : (l.take (i + 1)).sum = (l.take i).sum + l[i] := by
  rw [List.take_succ_eq_append_getElem h, List.sum_append]; simp
theorem sum_take_range {l : List Int} (h : ∀ x ∈ l, 0 ≤ x ∧ x ≤ 200) : ∀ i : Nat, 0 ≤ (l.take i).sum ∧ (l.take i).sum ≤ 200 * (i : Int) := by
  intro i
  induction i with
  | zero => simp
  | succ i ih =>
    rcases Nat.lt_or_ge i l.length with hlt | hge
    · rw [sum_take hlt]
      have := h _ (List.getElem_mem hlt)
      omega
    · rw [List.take_of_length_le (by omega)]
      rw [List.take_of_length_le (by omega)] at ih
      omega
theorem sum_range {l : List Int} (h : ∀ x ∈ l, 0 ≤ x ∧ x ≤ 200) : 0 ≤ l.sum ∧ l.sum ≤ 200 * (l.length : Int) := by
  have := sum_take_range h l.length
  rwa [List.take_of_length_le (Nat.le_refl _)] at this

theorem all_in {l : List Int} {lo hi : Int} (h : l.all (inB lo hi) = true) : ∀ x ∈ l, lo ≤ x ∧ x ≤ hi := fun x hx => inB_iff.1 (List.all_eq_true.1 h x hx)
def mostOf (a : Int) : List Int → Int
  | [] => a
  | x :: l => mostOf (if x > a then x else a) l
theorem most_take (l : List Int) : ∀ (a : Int) (i : Nat) (h : i < l.length), mostOf a (l.take (i + 1)) = if l[i] > mostOf a (l.take i) then l[i] else mostOf a (l.take i) := by
  induction l with
  | nil => intro a i h; simp at h
  | cons x l ih =>
    intro a i h
    cases i with
    | zero => simp [mostOf]
    | succ i =>
      simp only [List.take_succ_cons, mostOf, List.getElem_cons_succ]
      exact ih _ i (by simpa using h)
theorem kMost_eq (l : List Int) (hl : l.length ≤ 1000000) : laws_kMost l = some (mostOf 0 l) := by
  have key := iter_to (step := laws_kMost_s1 l) (fun i => (mostOf 0 (l.take i), (i : Int))) l.length (r := mostOf 0 l)
    (fun i hi => by
      simp only [laws_kMost_s1, Int.ofNat_lt, hi, decide_true, if_true, at_some hi, Option.bind_some, laws_kMost_j2, w64_nat1 (show i ≤ 4611686018427387904 by omega), most_take l 0 i hi]
      by_cases c : l[i] > mostOf 0 (l.take i) <;> simp [c])
    (by simp [laws_kMost_s1])
  unfold laws_kMost laws_kMost_l1
  simp only [List.take_zero, mostOf, Int.natCast_zero] at key
  rw [key]
  rfl
theorem kSame_self (l : List Int) (hl : l.length ≤ 1000000) : laws_kSame l l = some true := by
  have key := iter_to (step := laws_kSame_s1 l l) (fun i => (i : Int)) l.length (r := .inl ())
    (fun i hi => by
      simp only [laws_kSame_s1, Int.ofNat_lt, hi, decide_true, if_true, at_some hi, Option.bind_some, w64_nat1 (show i ≤ 4611686018427387904 by omega)]
      simp)
    (by simp [laws_kSame_s1])
  unfold laws_kSame laws_kSame_l1
  simp only [Int.natCast_zero] at key
  rw [key]
  simp
theorem mostOf_le (m : Int) : ∀ (l : List Int) (a : Int), a ≤ m → (∀ x ∈ l, x ≤ m) → mostOf a l ≤ m := by
  intro l
  induction l with
  | nil => intro a h _; exact h
  | cons x l ih =>
    intro a h hx
    simp only [mostOf]
    refine ih _ ?_ fun y hy => hx y (List.mem_cons_of_mem _ hy)
    have := hx x List.mem_cons_self
    split <;> omega

theorem sum_take_rangeM {M : Int} (hM0 : 0 ≤ M) {l : List Int} (h : ∀ x ∈ l, 0 ≤ x ∧ x ≤ M) : ∀ i : Nat, 0 ≤ (l.take i).sum ∧ (l.take i).sum ≤ M * (i : Int) := by
  intro i
  induction i with
  | zero => simp
  | succ i ih =>
    rcases Nat.lt_or_ge i l.length with hlt | hge
    · rw [sum_take hlt, Int.natCast_add, Int.mul_add]
      have := h _ (List.getElem_mem hlt)
      omega
    · rw [List.take_of_length_le (by omega)]
      rw [List.take_of_length_le (by omega)] at ih
      rw [Int.natCast_add, Int.mul_add]
      omega
theorem kSum_eq {M : Int} (hM0 : 0 ≤ M) (l : List Int) (hl : l.length ≤ 1000) (hM : M ≤ 100000) (h : ∀ x ∈ l, 0 ≤ x ∧ x ≤ M) : laws_kSum l = some l.sum := by
  have key := iter_to (step := laws_kSum_s1 l) (fun i => ((l.take i).sum, (i : Int))) l.length (r := l.sum)
    (fun i hi => by
      have h1 := sum_take_rangeM hM0 h i
      have h2 := h _ (List.getElem_mem hi)
      have h3 : M * (i : Int) ≤ 100000 * 1000 := by
        calc M * (i : Int) ≤ 100000 * (i : Int) := Int.mul_le_mul_of_nonneg_right hM (by omega)
          _ ≤ 100000 * 1000 := by omega
      simp only [laws_kSum_s1, Int.ofNat_lt, hi, decide_true, if_true, at_some hi, Option.bind_some, w64_nat1 (show i ≤ 4611686018427387904 by omega), sum_take hi]
      rw [w64_id (by omega) (by omega)])
    (by simp [laws_kSum_s1])
  unfold laws_kSum laws_kSum_l1
  simp only [List.take_zero, List.sum_nil, Int.natCast_zero] at key
  rw [key]
  rfl
end Go.Proofs.Ythecknnmfghilaa.Ev.Q3
