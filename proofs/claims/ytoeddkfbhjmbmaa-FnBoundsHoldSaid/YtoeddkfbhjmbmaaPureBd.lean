/- Bounds of what a server lets wait, by the windows of its traffic; no condition but that there are a server and traffic. -/
import Derived.Test.YtoeddkfbhjmbmaaPureI
import Derived.Test.YtoeddkfbhjmbmaaPureBk
namespace Go.Proofs.Ytoeddkfbhjmbmaa.PB
open Go.RowKit Go.Proofs.YtoeddkfbhjmbmaaW.PrintWords Go.Proofs.YtoeddkfbhjmbmaaW.PrintLast Go.Proofs.YtoeddkfbhjmbmaaW.PrintMore
set_option linter.unusedVariables false
namespace Srv
theorem take_sum_succ (l : List Int) (t : Nat) : (l.take (t + 1)).sum = (l.take t).sum + tr l t := by
  rw [List.take_add_one]
  unfold tr
  rw [List.getD_eq_getElem?_getD]
  cases l[t]? <;> simp
theorem C_sum (l : List Int) (t : Nat) : C l t = (l.take t).sum := by
  induction t with
  | zero => simp [C]
  | succ t ih => rw [take_sum_succ, ← ih]; rfl
theorem win_C (l : List Int) (s t : Nat) (h : s ≤ t + 1) : win l s t = C l (t + 1) - C l s := by
  rw [C_sum, C_sum]
  have h1 : (l.take (t + 1)).sum = ((l.take (t + 1)).take s).sum + ((l.take (t + 1)).drop s).sum := by
    rw [← List.sum_append, List.take_append_drop]
  rw [List.take_take, Nat.min_eq_left h] at h1
  unfold win
  omega
theorem mul_le {a : Int} (ha : 0 ≤ a) {m n : Nat} (h : m ≤ n) : a * (m : Int) ≤ a * (n : Int) := Int.mul_le_mul_of_nonneg_left (by omega) ha
theorem mul_le2 {a b : Int} (h : a ≤ b) (n : Nat) : a * (n : Int) ≤ b * (n : Int) := Int.mul_le_mul_of_nonneg_right h (by omega)
theorem mul_add3 (a : Int) (m n : Nat) : a * ((m + n : Nat) : Int) = a * (m : Int) + a * (n : Int) := by rw [Int.natCast_add, Int.mul_add]
variable {l : List Int} {r lat br dp : Int} {L : Nat}
/-- Traffic keeps a bucket, told by what has come. -/
def Keeps (l : List Int) (br dp : Int) : Prop := ∀ s t : Nat, s ≤ t → C l (t + 1) - C l s ≤ dp + br * ((t - s : Nat) : Int)
theorem keeps_of (h : Ok l r) (hb : 0 ≤ br) (hd : 0 ≤ dp) (hk : kp br dp dp l = true) : Keeps l br dp := by
  intro s t hst
  have hf := (kp_iff br dp l).mp hk
  by_cases c : t < l.length
  · have := bad_false.mp (hf s t hst c)
    rwa [win_C l s t (by omega)] at this
  · have e : ∀ n, l.length ≤ n → C l n = C l l.length := fun n hn => by
      rw [C_sum, C_sum, List.take_of_length_le hn, List.take_of_length_le (Nat.le_refl _)]
    rw [e (t + 1) (by omega)]
    by_cases c2 : s < l.length
    · obtain ⟨n, hn⟩ : ∃ n, l.length = n + 1 := ⟨l.length - 1, by omega⟩
      have := bad_false.mp (hf s n (by omega) (by omega))
      rw [win_C l s n (by omega)] at this
      have h2 := mul_le hb (show n - s ≤ t - s by omega)
      rw [hn]
      omega
    · rw [e s (by omega)]
      have h2 : 0 ≤ br * ((t - s : Nat) : Int) := Int.mul_nonneg hb (by omega)
      omega
theorem B_formula (h : Ok l r) : ∀ t : Nat, ∃ s : Nat, s ≤ t ∧ B l r L t ≤ C l t - C l s - r * ((t - max s L : Nat) : Int)
  | 0 => ⟨0, Nat.le_refl _, by simp [B]⟩
  | t + 1 => by
    obtain ⟨s, hs, hB⟩ := B_formula h t
    simp only [B, C]
    unfold xOf
    by_cases c : (t : Int) < (L : Int)
    · rw [if_pos c]
      refine ⟨s, by omega, ?_⟩
      have e1 : t - max s L = 0 := by omega
      have e2 : t + 1 - max s L = 0 := by omega
      rw [e1] at hB
      rw [e2]
      omega
    · rw [if_neg c]
      have hm : mn (B l r L t + tr l t) r = (if r < B l r L t + tr l t then r else B l r L t + tr l t) := rfl
      rw [hm]
      by_cases c2 : r < B l r L t + tr l t
      · rw [if_pos c2]
        refine ⟨s, by omega, ?_⟩
        have e2 : t + 1 - max s L = (t - max s L) + 1 := by omega
        rw [e2, mul_nat_succ]
        omega
      · rw [if_neg c2]
        refine ⟨t + 1, Nat.le_refl _, ?_⟩
        have e2 : t + 1 - max (t + 1) L = 0 := by omega
        rw [e2]
        simp only [C]
        omega
theorem B_bound (h : Ok l r) (hb : 0 ≤ br) (hbr : br ≤ r) (hd : 0 ≤ dp) (hk : Keeps l br dp) (t : Nat) : B l r L (t + 1) ≤ dp + br * (L : Int) := by
  obtain ⟨s, hs, hB⟩ := B_formula (L := L) h (t + 1)
  have h0 : 0 ≤ br * (L : Int) := Int.mul_nonneg hb (by omega)
  have hr := h.rate
  have hc : 0 ≤ r * ((t + 1 - max s L : Nat) : Int) := Int.mul_nonneg (by omega) (by omega)
  by_cases c : s = t + 1
  · subst c; omega
  · have h1 := hk s t (by omega)
    have h2 := mul_le2 hbr (t + 1 - max s L)
    have h3 := mul_le hb (show t - s ≤ (t + 1 - max s L) + L by omega)
    rw [mul_add3] at h3
    omega
theorem most_bound (h : Ok l r) (hb : 0 ≤ br) (hbr : br ≤ r) (hd : 0 ≤ dp) (hk : Keeps l br dp) : ∀ t, most l r L t ≤ dp + br * (L : Int)
  | 0 => by
    have h0 : 0 ≤ br * (L : Int) := Int.mul_nonneg hb (by omega)
    simp only [most]
    omega
  | t + 1 => by
    have h1 := most_bound h hb hbr hd hk t
    have h2 := B_bound (L := L) h hb hbr hd hk t
    simp only [most, mx]
    split <;> omega
theorem S_bound (h : Ok l r) (hb : 0 ≤ br) (hbr : br ≤ r) (hk : Keeps l br dp) {q : Nat} (hq : dp ≤ r * (q : Int)) {t k : Nat} (hs : S l r L t k) : t ≤ k + L + q := by
  obtain ⟨_, _, _, h4⟩ := hs
  refine Nat.le_of_not_lt fun c => ?_
  obtain ⟨s, hs, hB⟩ := B_formula (L := L) h t
  have hr := h.rate
  have hc : 0 ≤ r * ((t - max s L : Nat) : Int) := Int.mul_nonneg (by omega) (by omega)
  rw [G_eq] at h4
  have hsk : s ≤ k := by
    refine Nat.le_of_not_lt fun c2 => ?_
    have := C_mono h (show k + 1 ≤ s by omega)
    omega
  have h1 := hk s k hsk
  have h2 := mul_le (show 0 ≤ r by omega) (show (k - s) + (q + 1) ≤ t - max s L by omega)
  rw [mul_add3, mul_nat_succ] at h2
  have h3 := mul_le2 hbr (k - s)
  omega
theorem D_bound (h : Ok l r) (hb : 0 ≤ br) (hbr : br ≤ r) (hk : Keeps l br dp) {q : Nat} (hq : dp ≤ r * (q : Int)) (t : Nat) : D l r L t ≤ (L : Int) + q := by
  rcases (D_most (lat := (L : Int)) h t).2.2 with e | ⟨t', k', hp, e⟩
  · omega
  · have := S_bound h hb hbr hk hq hp.2
    omega
theorem G_bound (h : Ok l r) (hb : 0 ≤ br) (hbr : br ≤ r) (hk : Keeps l br dp) (s t : Nat) (hst : s ≤ t) : G l r L (t + 1) - G l r L s ≤ dp + br * (L : Int) + br * ((t - s : Nat) : Int) := by
  obtain ⟨q, hq, hB⟩ := B_formula (L := L) h s
  have hB2 := (B_ok (lat := (L : Int)) h (t + 1)).1
  rw [G_eq, G_eq]
  have h1 := hk q t (by omega)
  have h2 := mul_le2 hbr (s - max q L)
  have h3 := mul_le hb (show t - q ≤ (s - max q L) + (L + (t - s)) by omega)
  rw [mul_add3, mul_add3] at h3
  omega
theorem tr_outs (T n : Nat) (hn : n < T) : tr (outs l r lat T) n = X l r lat n := by
  have := outs_rd (l := l) (r := r) (lat := lat) hn
  rw [rd_nat] at this
  exact this
theorem C_outs (T : Nat) : ∀ n, n ≤ T → C (outs l r lat T) n = G l r lat n
  | 0, _ => rfl
  | n + 1, hn => by
    simp only [C, G]
    rw [C_outs T n (by omega), tr_outs T n (by omega)]
theorem behind_keeps (h : Ok l r) (hb : 0 ≤ br) (hbr : br ≤ r) (hk : Keeps l br dp) (T : Nat) : kp br (dp + br * (L : Int)) (dp + br * (L : Int)) (outs l r L T) = true :=
  (kp_iff _ _ _).mpr fun s t hst ht => by
    rw [outs_len] at ht
    rw [bad_false, win_C _ s t (by omega), C_outs T (t + 1) (by omega), C_outs T s (by omega)]
    exact G_bound h hb hbr hk s t hst
theorem outs_sum (h : Ok l r) (T : Nat) (hg : ¬ go l r lat T = true) : (outs l r lat T).sum = l.sum := by
  have h1 : (outs l r lat T).sum = C (outs l r lat T) T := by
    rw [C_sum, List.take_of_length_le (by rw [outs_len]; exact Nat.le_refl _)]
  have hB := (B_ok (lat := lat) h T).1
  simp only [go, Bool.or_eq_true, decide_eq_true_eq, not_or] at hg
  rw [h1, C_outs T T (Nat.le_refl _), G_eq, C_sum, List.take_of_length_le (by omega)]
  omega
theorem X_rate (h : Ok l r) (t : Nat) : X l r lat t ≤ r := by
  unfold X xOf
  have := h.rate
  split
  · omega
  · exact (mn_le.mp (Int.le_refl _)).2
theorem outs_mem (h : Ok l r) (T : Nat) : ∀ x ∈ outs l r lat T, 0 ≤ x ∧ x ≤ r := by
  intro x hx
  simp only [outs, List.mem_map] at hx
  obtain ⟨t, _, rfl⟩ := hx
  exact ⟨X_ok h t, X_rate h t⟩
end Srv
end Go.Proofs.Ytoeddkfbhjmbmaa.PB
