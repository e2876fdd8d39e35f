/- Levels of buckets, and the law on shapes; no condition but what each names. -/
import Derived.Test.YthecknnmfghilaaQ3M7
set_option linter.unusedVariables false
set_option linter.unusedSimpArgs false
namespace Go.Proofs.Ythecknnmfghilaa.Ev.Q3
open Go
set_option linter.unusedSimpArgs false
set_option linter.unusedVariables false
set_option maxHeartbeats 2000000
namespace Sh
variable {R D : Int} {t : List Int}
/-- Levels if all is sent as it comes. -/
def lk (R D : Int) (l : List Int) : Nat → Int
  | 0 => D
  | i + 1 => mn (lk R D l i - ar l i + R) D
theorem levels_to (l : List Int) (hr : 1 ≤ R ∧ R ≤ 100) (hd : 1 ≤ D ∧ D ≤ 1000) (hl : ∀ x ∈ l, 0 ≤ x ∧ x ≤ 1000) (hm : l.length ≤ 40) (n : Nat) (hn : n ≤ l.length) (h : ∀ i, i < n → ar l i ≤ lk R D l i) :
    (∀ i, i ≤ n → 0 ≤ lk R D l i ∧ lk R D l i ≤ D) ∧ iter (impl_Bucket_levels_s1 (R, D) l) ([], D, 0) = iter (impl_Bucket_levels_s1 (R, D) l) ((List.range n).map (lk R D l), lk R D l n, (n : Int)) := by
  have hb : ∀ i, i ≤ n → 0 ≤ lk R D l i ∧ lk R D l i ≤ D := by
    intro i
    induction i with
    | zero => intro _; simp only [lk]; omega
    | succ i ih =>
      intro hi
      have h1 := ih (by omega)
      have h2 := h i (by omega)
      have h3 := hl _ (List.getElem_mem (show i < l.length by omega))
      have h4 : ar l i = l[i]'(by omega) := by unfold ar; rw [List.getD_eq_getElem?_getD, List.getElem?_eq_getElem (by omega)]; rfl
      simp only [lk]
      unfold mn
      split <;> omega
  refine ⟨hb, ?_⟩
  have key := iter_count (step := impl_Bucket_levels_s1 (R, D) l) (fun i => ((List.range i).map (lk R D l), lk R D l i, (i : Int))) 0 n (by omega) (fun i _ hi => by
    have h1 := hb i (by omega)
    have h2 := h i hi
    have h3 := hl _ (List.getElem_mem (show i < l.length by omega))
    have h4 : ar l i = l[i]'(by omega) := by unfold ar; rw [List.getD_eq_getElem?_getD, List.getElem?_eq_getElem (by omega)]; rfl
    unfold impl_Bucket_levels_s1
    dsimp only
    rw [if_pos (by simp; omega), tr_at i (by omega), Option.bind_some, if_neg (by simp; omega), app_ok (by simp; omega), Option.bind_some, Option.bind_some, w64_id (x := lk R D l i - ar l i) (by omega) (by omega), w64_id (x := lk R D l i - ar l i + R) (by omega) (by omega), w64_nat1 (by omega), List.range_succ, List.map_append]
    rfl)
  exact key
theorem levels_keep (l : List Int) (hr : 1 ≤ R ∧ R ≤ 100) (hd : 1 ≤ D ∧ D ≤ 1000) (hl : ∀ x ∈ l, 0 ≤ x ∧ x ≤ 1000) (hm : l.length ≤ 40) (h : ∀ i, i < l.length → ar l i ≤ lk R D l i) : ∃ x, impl_Bucket_levels (R, D) l = some (x, true) := by
  have := (levels_to l hr hd hl hm l.length (Nat.le_refl _) h).2
  unfold impl_Bucket_levels impl_Bucket_levels_l1
  dsimp only
  rw [this, iter_stop (r := .inl ((List.range l.length).map (lk R D l))) (by simp [impl_Bucket_levels_s1])]
  exact ⟨_, rfl⟩
theorem levels_break (l : List Int) (hr : 1 ≤ R ∧ R ≤ 100) (hd : 1 ≤ D ∧ D ≤ 1000) (hl : ∀ x ∈ l, 0 ≤ x ∧ x ≤ 1000) (hm : l.length ≤ 40) (n : Nat) (hn : n < l.length) (h : ∀ i, i < n → ar l i ≤ lk R D l i) (hbr : ar l n > lk R D l n) : ∃ x, impl_Bucket_levels (R, D) l = some (x, false) := by
  have := (levels_to l hr hd hl hm n (by omega) h).2
  unfold impl_Bucket_levels impl_Bucket_levels_l1
  dsimp only
  rw [this, iter_stop (r := .inr ([], false)) (by
    unfold impl_Bucket_levels_s1
    dsimp only
    rw [if_pos (by simp; omega), tr_at n hn, Option.bind_some, if_pos (by simpa using hbr)])]
  exact ⟨_, rfl⟩
theorem keeps_of (l : List Int) {b : Bool} (hok : okB R D l = true) (h : ∃ x, impl_Bucket_levels (R, D) l = some (x, b)) : impl_KeepsBucket (R, D) l = some (b, true) := by
  have o := ok_of hok
  obtain ⟨x, hx⟩ := h
  unfold impl_KeepsBucket
  rw [isShaped_eq R D l (by have := o.hm; omega), hok, Option.bind_some, if_neg (by simp), hx]
  rfl
theorem keeps_not (l : List Int) (hl : l.length ≤ 1000000) (h : okB R D l = false) : impl_KeepsBucket (R, D) l = some (false, false) := by
  unfold impl_KeepsBucket
  rw [isShaped_eq R D l hl, h]
  rfl

theorem ar_shape {N i : Nat} (h : i < N) : ar (shapeR R D t N) i = xs R D t i := by
  unfold ar shapeR
  rw [List.getD_eq_getElem?_getD]
  simp [h]
theorem lk_shape {N : Nat} : ∀ i, i ≤ N → lk R D (shapeR R D t N) i = lv R D t i := by
  intro i
  induction i with
  | zero => intro _; rfl
  | succ i ih => intro h; simp only [lk]; rw [ih (by omega), ar_shape (by omega), lvS]
theorem shape_in (o : Ok R D t) (N : Nat) : ∀ x ∈ shapeR R D t N, 0 ≤ x ∧ x ≤ 1000 := by
  intro x hx
  simp only [shapeR, List.mem_map] at hx
  obtain ⟨i, _, rfl⟩ := hx
  have := xs_ok o i
  omega
/-- Nothing left so far: the levels are the same. -/
theorem lk_same {n : Nat} (h : ∀ i, i < n → bk R D t (i + 1) = 0) : ∀ i, i ≤ n → lk R D t i = lv R D t i ∧ bk R D t i = 0 ∧ (i < n → xs R D t i = ar t i) := by
  intro i
  induction i with
  | zero => intro _; exact ⟨rfl, rfl, fun hi => by have := h 0 hi; rw [bkS, bk0] at this; omega⟩
  | succ i ih =>
    intro hi
    obtain ⟨h1, h2, h3⟩ := ih (by omega)
    have h4 := h i (by omega)
    refine ⟨?_, h4, fun hi' => ?_⟩
    · simp only [lk]; rw [h1, lvS, h3 (by omega)]
    · have := h (i + 1) hi'
      rw [bkS] at this
      omega
/-- Shaped again it stays. -/
theorem shape_again (o : Ok R D t) (N : Nat) : ∀ i, i ≤ N → bk R D (shapeR R D t N) i = 0 ∧ lv R D (shapeR R D t N) i = lv R D t i ∧ (i < N → xs R D (shapeR R D t N) i = xs R D t i) := by
  intro i
  induction i with
  | zero =>
    intro _
    refine ⟨rfl, rfl, fun h => ?_⟩
    have := xs_ok o 0
    show mn (bk R D (shapeR R D t N) 0 + ar (shapeR R D t N) 0) (lv R D (shapeR R D t N) 0) = _
    rw [ar_shape h, bk0, show lv R D (shapeR R D t N) 0 = lv R D t 0 from rfl]
    unfold mn
    split <;> omega
  | succ i ih =>
    intro hi
    obtain ⟨h1, h2, h3⟩ := ih (by omega)
    have h3 := h3 (by omega)
    have e1 : bk R D (shapeR R D t N) (i + 1) = 0 := by rw [bkS, h1, h3, ar_shape (by omega)]; omega
    have e2 : lv R D (shapeR R D t N) (i + 1) = lv R D t (i + 1) := by rw [lvS, lvS, h2, h3]
    refine ⟨e1, e2, fun h => ?_⟩
    have := xs_ok o (i + 1)
    show mn (bk R D (shapeR R D t N) (i + 1) + ar (shapeR R D t N) (i + 1)) (lv R D (shapeR R D t N) (i + 1)) = _
    rw [ar_shape h, e1, e2]
    unfold mn
    split <;> omega
theorem most_ge (l : List Int) : ∀ a : Int, a ≤ mostOf a l ∧ ∀ x ∈ l, x ≤ mostOf a l := by
  induction l with
  | nil => intro a; simp [mostOf]
  | cons y l ih =>
    intro a
    simp only [mostOf]
    obtain ⟨h1, h2⟩ := ih (if y > a then y else a)
    refine ⟨by split at h1 <;> split <;> omega, fun x hx => ?_⟩
    rcases List.mem_cons.1 hx with rfl | hx
    · split at h1 <;> split <;> omega
    · exact h2 x hx
theorem left_le (N i : Nat) (h : i < N) : bk R D t (i + 1) ≤ mostOf 0 (leftR R D t N) :=
  (most_ge _ 0).2 _ (List.mem_map.2 ⟨i, List.mem_range.2 h, rfl⟩)
theorem left_zero (o : Ok R D t) {N : Nat} (h : mostOf 0 (leftR R D t N) = 0) : ∀ i, i < N → bk R D t (i + 1) = 0 := by
  intro i hi
  have := left_le (R := R) (D := D) (t := t) N i hi
  have := (ok_step o (i + 1)).1
  omega
theorem left_some (o : Ok R D t) {N : Nat} (h : mostOf 0 (leftR R D t N) ≠ 0) : ∃ i, i < N ∧ bk R D t (i + 1) > 0 ∧ ∀ j, j < i → bk R D t (j + 1) = 0 := by
  have hex : ∃ i, i < N ∧ bk R D t (i + 1) > 0 := by
    by_cases c : ∃ i, i < N ∧ bk R D t (i + 1) > 0
    · exact c
    · exfalso
      refine h ?_
      have h1 := mostOf_le 0 (leftR R D t N) 0 (by omega) fun x hx => by
        simp only [leftR, List.mem_map, List.mem_range] at hx
        obtain ⟨i, hi, rfl⟩ := hx
        refine Int.not_lt.1 fun hlt => c ⟨i, hi, by omega⟩
      have h2 := (most_ge (leftR R D t N) 0).1
      omega
  have key : ∀ n, (∃ i, i < n ∧ i < N ∧ bk R D t (i + 1) > 0) → ∃ i, i < N ∧ bk R D t (i + 1) > 0 ∧ ∀ j, j < i → bk R D t (j + 1) = 0 := by
    intro n
    induction n with
    | zero => rintro ⟨i, h1, _⟩; omega
    | succ n ih =>
      rintro ⟨i, h1, h2, h3⟩
      by_cases c : ∃ j, j < n ∧ j < N ∧ bk R D t (j + 1) > 0
      · exact ih c
      · refine ⟨i, h2, h3, fun j hj => ?_⟩
        have := (ok_step o (j + 1)).1
        have h4 : ¬ bk R D t (j + 1) > 0 := fun h5 => c ⟨j, by omega, by omega, h5⟩
        omega
  obtain ⟨i, h1, h2⟩ := hex
  exact key N ⟨i, h1, h1, h2⟩
/-- Traffic keeps the bucket just if nothing is left ever. -/
theorem keeps_traffic (o : Ok R D t) {N : Nat} (he : Ends R D t N) (hok : okB R D t = true) : impl_KeepsBucket (R, D) t = some (mostOf 0 (leftR R D t N) == 0, true) := by
  by_cases c : mostOf 0 (leftR R D t N) = 0
  · have h := left_zero o c
    have hs := lk_same (R := R) (D := D) (t := t) h
    rw [show (mostOf 0 (leftR R D t N) == 0) = true by simpa using c]
    refine keeps_of t hok (levels_keep t o.hr o.hd o.ht o.hm fun i hi => ?_)
    have he1 := he.1
    obtain ⟨h1, h2, h3⟩ := hs i (by omega)
    have := xs_ok o i
    have := h3 (by omega)
    omega
  · obtain ⟨i, h1, h2, h3⟩ := left_some o c
    have hs := lk_same (R := R) (D := D) (t := t) (n := i) h3
    have hf := full o i h2
    obtain ⟨q1, q2, _⟩ := hs i (Nat.le_refl _)
    rw [bkS] at h2
    have hlvp := lv_pos o i
    have him : i < t.length := Nat.lt_of_not_le fun hc => by rw [ar_out hc] at h2; omega
    rw [show (mostOf 0 (leftR R D t N) == 0) = false by simpa using c]
    refine keeps_of t hok (levels_break t o.hr o.hd o.ht o.hm i him (fun j hj => ?_) (by omega))
    obtain ⟨r1, r2, r3⟩ := hs j (by omega)
    have := xs_ok o j
    have := r3 hj
    omega
/-- No delay just if nothing is left ever. -/
theorem delay_zero (o : Ok R D t) {N : Nat} (he : Ends R D t N) {v : Int} (hv : Most (All R D t) v) : (v == 0) = (mostOf 0 (leftR R D t N) == 0) := by
  by_cases c : mostOf 0 (leftR R D t N) = 0
  · have h := left_zero o c
    rw [show (mostOf 0 (leftR R D t N) == 0) = true by simpa using c]
    rcases hv.is with e | ⟨j, k, q1, q2⟩
    · simpa using e
    · have hjN : j < N := by have := (last_lt o q1).1; have := he.1; omega
      have hb := h j hjN
      have a := came_gone (R := R) (D := D) (t := t) (j + 1)
      have hk : k ≤ j := Nat.le_of_not_lt fun hlt => by have := gone_mono o (show j + 1 ≤ k by omega); have := q1.2.1; omega
      have := (last_lt o q1).2
      simp; omega
  · obtain ⟨i, h1, h2, h3⟩ := left_some o c
    rw [show (mostOf 0 (leftR R D t N) == 0) = false by simpa using c]
    obtain ⟨_, q2, _⟩ := lk_same (R := R) (D := D) (t := t) (n := i) h3 i (Nat.le_refl _)
    have hxi := xs_ok o i
    have h2' := h2
    rw [bkS] at h2'
    have ha : ar t i > 0 := by omega
    -- the tick at which the last of it is sent
    have hex : ∃ k, came t (i + 1) ≤ gone R D t (k + 1) := by
      have he1 := he.1
      obtain ⟨M, rfl⟩ : ∃ M, N = M + 1 := ⟨N - 1, by omega⟩
      refine ⟨M, ?_⟩
      rw [gone_end he]
      have := came_mono o (show i + 1 ≤ t.length from Nat.lt_of_not_le fun hc => by rw [ar_out hc] at ha; omega)
      rwa [came_all (Nat.le_refl _)] at this
    have hlast : ∃ k, Last R D t i k := by
      have key : ∀ n, came t (i + 1) ≤ gone R D t (n + 1) → ∃ k, Last R D t i k := by
        intro n
        induction n with
        | zero => intro h; exact ⟨0, ha, by have := came_ok o i; rw [cameS]; simp only [gone, List.range_zero, List.map_nil, List.sum_nil]; omega, h⟩
        | succ n ih =>
          intro h
          by_cases d : came t (i + 1) ≤ gone R D t (n + 1)
          · exact ih d
          · exact ⟨n + 1, ha, by omega, h⟩
      obtain ⟨k, hk⟩ := hex
      exact key k hk
    obtain ⟨k, hk⟩ := hlast
    have hle := hv.le _ ⟨i, k, hk, rfl⟩
    have hki := (last_lt o hk).2
    have hne : k ≠ i := by
      rintro rfl
      have := hk.2.2
      have a := came_gone (R := R) (D := D) (t := t) (k + 1)
      omega
    simp; omega
end Sh
end Go.Proofs.Ythecknnmfghilaa.Ev.Q3
