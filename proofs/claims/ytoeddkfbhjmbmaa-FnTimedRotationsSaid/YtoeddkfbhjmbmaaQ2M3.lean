/- Visits of timed rings as a sequence of ticks, and how long rotations are; no condition but what each names. -/
import Derived.Test.YtoeddkfbhjmbmaaQ2M2
set_option linter.unusedVariables false
set_option linter.unusedSimpArgs false
namespace Go.Proofs.Ytoeddkfbhjmbmaa.Ev.Q2
open Go
set_option linter.unusedVariables false
set_option linter.unusedSimpArgs false
namespace Tr
def mn (a b : Int) : Int := if b < a then b else a
def mx (a b : Int) : Int := if b > a then b else a
theorem mnle {a b x : Int} : x ≤ mn a b ↔ x ≤ a ∧ x ≤ b := by
  unfold mn
  split <;> omega
theorem mxle {a b x : Int} : mx a b ≤ x ↔ a ≤ x ∧ b ≤ x := by
  unfold mx
  split <;> omega
def wish (F : List Int) (ws : List (List Int)) (i : Nat) : Int := (ws.getD (i / F.length) []).getD (i % F.length) 0
def fx (F : List Int) (i : Nat) : Int := F.getD (i % F.length) 0
def lastOf (w : Int) (F : List Int) (s : List Int) (i : Nat) : Int := if i < F.length then ((i : Int) - (F.length : Int)) * w else s.getD (i - F.length) 0
def frOf (T w : Int) (F : List Int) (ws : List (List Int)) (s : List Int) (i : Nat) : Int := mn (wish F ws i) (mx 0 (T - (s.getD i 0 - lastOf w F s i)))
def seq (T w : Int) (F : List Int) (ws : List (List Int)) : Nat → List Int
  | 0 => [0]
  | i + 1 => seq T w F ws i ++ [(seq T w F ws i).getD i 0 + fx F i + frOf T w F ws (seq T w F ws i) i + w]
/-- The tick of a visit, what it sends freely, and the tick of the station's visit before it. -/
def tk (T w : Int) (F : List Int) (ws : List (List Int)) (i : Nat) : Int := (seq T w F ws i).getD i 0
def fr (T w : Int) (F : List Int) (ws : List (List Int)) (i : Nat) : Int := frOf T w F ws (seq T w F ws i) i
def la (T w : Int) (F : List Int) (ws : List (List Int)) (i : Nat) : Int := lastOf w F (seq T w F ws i) i
variable {T w : Int} {F : List Int} {ws : List (List Int)}
theorem seq_length (i : Nat) : (seq T w F ws i).length = i + 1 := by
  induction i with
  | zero => rfl
  | succ i ih => simp [seq, ih]
theorem seq_get (i : Nat) : ∀ j, j ≤ i → (seq T w F ws i).getD j 0 = tk T w F ws j := by
  induction i with
  | zero => intro j h; obtain rfl : j = 0 := by omega
            rfl
  | succ i ih =>
    intro j h
    by_cases e : j = i + 1
    · subst e; rfl
    · rw [← ih j (by omega)]
      simp only [seq, List.getD_eq_getElem?_getD]
      rw [List.getElem?_append_left (by rw [seq_length]; omega)]
theorem tk_zero : tk T w F ws 0 = 0 := rfl
theorem tk_succ (i : Nat) : tk T w F ws (i + 1) = tk T w F ws i + fx F i + fr T w F ws i + w := by
  show (seq T w F ws (i + 1)).getD (i + 1) 0 = _
  simp only [seq, List.getD_eq_getElem?_getD]
  rw [List.getElem?_append_right (by rw [seq_length]; omega), seq_length]
  simp only [Nat.sub_self, List.getElem?_cons_zero, Option.getD_some]
  rw [← List.getD_eq_getElem?_getD]
  rfl
theorem la_first {i : Nat} (h : i < F.length) : la T w F ws i = ((i : Int) - (F.length : Int)) * w := by
  unfold la lastOf
  rw [if_pos h]
theorem la_later {i : Nat} (h : ¬ i < F.length) : la T w F ws i = tk T w F ws (i - F.length) := by
  unfold la lastOf
  rw [if_neg h, seq_get i _ (by omega)]
theorem fr_eq (i : Nat) : fr T w F ws i = mn (wish F ws i) (mx 0 (T - (tk T w F ws i - la T w F ws i))) := rfl
structure Good (T w : Int) (F : List Int) (ws : List (List Int)) : Prop where
  hn : 1 ≤ F.length ∧ F.length ≤ 12
  ht : 1 ≤ T ∧ T ≤ 200
  hw : 1 ≤ w ∧ w ≤ 20
  hf : ∀ x ∈ F, 0 ≤ x ∧ x ≤ 200
  hws : ws.length ≤ 20
  hrow : ∀ row ∈ ws, row.length = F.length ∧ ∀ x ∈ row, 0 ≤ x ∧ x ≤ 200
  hbusy : F.sum + w * (F.length : Int) ≤ T
theorem getD_ok {l : List Int} (h : ∀ x ∈ l, 0 ≤ x ∧ x ≤ 200) (i : Nat) : 0 ≤ l.getD i 0 ∧ l.getD i 0 ≤ 200 := by
  rw [List.getD_eq_getElem?_getD]
  by_cases c : i < l.length
  · rw [List.getElem?_eq_getElem c, Option.getD_some]
    exact h _ (List.getElem_mem c)
  · rw [List.getElem?_eq_none (by omega)]
    simp
theorem fx_ok (g : Good T w F ws) (i : Nat) : 0 ≤ fx F i ∧ fx F i ≤ 200 := getD_ok g.hf _
theorem wish_ok (g : Good T w F ws) (i : Nat) : 0 ≤ wish F ws i ∧ wish F ws i ≤ 200 := by
  unfold wish
  refine getD_ok ?_ _
  rw [List.getD_eq_getElem?_getD]
  by_cases c : i / F.length < ws.length
  · rw [List.getElem?_eq_getElem c, Option.getD_some]
    exact (g.hrow _ (List.getElem_mem c)).2
  · rw [List.getElem?_eq_none (by omega)]
    simp
theorem fr_ok (g : Good T w F ws) (i : Nat) : 0 ≤ fr T w F ws i ∧ fr T w F ws i ≤ wish F ws i := by
  rw [fr_eq]
  have h := wish_ok g i
  exact ⟨mnle.mpr ⟨h.1, (mxle.mp (Int.le_refl _)).1⟩, (mnle.mp (Int.le_refl _)).1⟩
theorem fr_pos (g : Good T w F ws) (i : Nat) (h : fr T w F ws i > 0) : fr T w F ws i + (tk T w F ws i - la T w F ws i) ≤ T := by
  rw [fr_eq] at h ⊢
  have h1 := (mnle (a := wish F ws i) (b := mx 0 (T - (tk T w F ws i - la T w F ws i)))).mp (Int.le_refl _)
  generalize mn (wish F ws i) (mx 0 (T - (tk T w F ws i - la T w F ws i))) = q at *
  unfold mx at h1
  split at h1 <;> omega
theorem tk_ok (g : Good T w F ws) (i : Nat) : 0 ≤ tk T w F ws i ∧ tk T w F ws i ≤ 420 * (i : Int) := by
  induction i with
  | zero => rw [tk_zero]; omega
  | succ i ih =>
    have h1 := fx_ok g i
    have h2 := fr_ok g i
    have h3 := wish_ok g i
    have h4 := g.hw
    rw [tk_succ]
    omega
theorem tk_lt (g : Good T w F ws) {i j : Nat} (h : i < j) : tk T w F ws i < tk T w F ws j := by
  obtain ⟨d, rfl⟩ : ∃ d, j = i + d + 1 := ⟨j - i - 1, by omega⟩
  clear h
  induction d with
  | zero =>
    have h1 := fx_ok g i
    have h2 := fr_ok g i
    have h4 := g.hw
    rw [Nat.add_zero, tk_succ]
    omega
  | succ d ih =>
    have h1 := fx_ok g (i + d + 1)
    have h2 := fr_ok g (i + d + 1)
    have h4 := g.hw
    rw [show i + (d + 1) + 1 = (i + d + 1) + 1 by omega, tk_succ]
    omega
/-- Sums of what is fixed, and of what is free. -/
def A (F : List Int) : Nat → Int
  | 0 => 0
  | i + 1 => A F i + fx F i
def P (T w : Int) (F : List Int) (ws : List (List Int)) : Nat → Int
  | 0 => 0
  | i + 1 => P T w F ws i + fr T w F ws i
theorem tk_sum (i : Nat) : tk T w F ws i = A F i + P T w F ws i + w * (i : Int) := by
  induction i with
  | zero => simp [tk_zero, A, P]
  | succ i ih =>
    rw [tk_succ, ih]
    simp only [A, P]
    rw [Int.natCast_add, Int.mul_add]
    omega
theorem A_take (i : Nat) (h : i ≤ F.length) : A F i = (F.take i).sum := by
  induction i with
  | zero => simp [A]
  | succ i ih =>
    rw [List.take_succ_eq_append_getElem (by omega), List.sum_append]
    simp only [A, fx, List.sum_cons, List.sum_nil]
    rw [ih (by omega), Nat.mod_eq_of_lt (by omega), List.getD_eq_getElem?_getD, List.getElem?_eq_getElem (by omega)]
    simp
theorem A_turn (hn : 1 ≤ F.length) (i : Nat) : A F (i + F.length) = A F i + F.sum := by
  induction i with
  | zero => rw [Nat.zero_add, A_take _ (Nat.le_refl _), List.take_length]; simp [A]
  | succ i ih =>
    rw [show i + 1 + F.length = (i + F.length) + 1 by omega]
    simp only [A]
    rw [ih]
    have : fx F (i + F.length) = fx F i := by unfold fx; rw [Nat.add_mod_right]
    omega
theorem A_ok (g : Good T w F ws) (i : Nat) : 0 ≤ A F i := by
  induction i with
  | zero => simp [A]
  | succ i ih => have := fx_ok g i; simp only [A]; omega
theorem P_mono (g : Good T w F ws) {i j : Nat} (h : i ≤ j) : P T w F ws i ≤ P T w F ws j := by
  obtain ⟨d, rfl⟩ : ∃ d, j = i + d := ⟨j - i, by omega⟩
  clear h
  induction d with
  | zero => exact Int.le_refl _
  | succ d ih =>
    have := fr_ok g (i + d)
    rw [← Nat.add_assoc]
    simp only [P]
    omega
theorem P_win (g : Good T w F ws) : ∀ m a : Nat, a ≤ m → m ≤ a + F.length → P T w F ws m - P T w F ws a ≤ T - w * (F.length : Int) := by
  have hs := A_ok g F.length
  rw [A_take _ (Nat.le_refl _), List.take_length] at hs
  have hb := g.hbusy
  intro m
  induction m with
  | zero => intro a h1 h2; obtain rfl : a = 0 := by omega
            omega
  | succ m ih =>
    intro a h1 h2
    by_cases e : a = m + 1
    · subst e; omega
    · have i1 := ih a (by omega) (by omega)
      simp only [P]
      by_cases c : fr T w F ws m > 0
      · have hp := fr_pos g m c
        have ha : 0 ≤ P T w F ws a := P_mono g (Nat.zero_le a)
        by_cases c2 : m < F.length
        · rw [la_first c2, tk_sum] at hp
          have hA := A_ok g m
          have e1 : ((m : Int) - (F.length : Int)) * w = w * (m : Int) - w * (F.length : Int) := by rw [Int.sub_mul, Int.mul_comm, Int.mul_comm (F.length : Int)]
          omega
        · rw [la_later c2, tk_sum, tk_sum] at hp
          have e0 : m = (m - F.length) + F.length := by omega
          have e1 := A_turn g.hn.1 (m - F.length)
          rw [← e0] at e1
          have e2 : w * (m : Int) - w * ((m - F.length : Nat) : Int) = w * (F.length : Int) := by
            rw [← Int.mul_sub]
            congr 1
            omega
          have hm := P_mono g (show m - F.length ≤ a by omega)
          omega
      · have := fr_ok g m
        omega
/-- A rotation lasts at most twice the target. -/
theorem rot_le (g : Good T w F ws) (i : Nat) : tk T w F ws (i + F.length) - tk T w F ws i ≤ 2 * T := by
  have h1 := P_win g (i + F.length) i (by omega) (Nat.le_refl _)
  have h2 := A_turn g.hn.1 i
  have hb := g.hbusy
  have hw : 0 ≤ w * (F.length : Int) := Int.mul_nonneg (by have := g.hw; omega) (by omega)
  rw [tk_sum, tk_sum, h2, Int.natCast_add, Int.mul_add]
  omega
theorem rots_le (g : Good T w F ws) (i q : Nat) : tk T w F ws (i + q * F.length) ≤ tk T w F ws i + 2 * T * (q : Int) := by
  induction q with
  | zero => simp
  | succ q ih =>
    have := rot_le g (i + q * F.length)
    rw [show i + (q + 1) * F.length = i + q * F.length + F.length by rw [Nat.succ_mul]; omega, Int.natCast_add, Int.mul_add]
    omega
/-- From a visit on, as many visits of the station as fit. -/
theorem visits_fit (g : Good T w F ws) {i N q : Nat} {sp : Int} (hsp : tk T w F ws i + sp ≤ tk T w F ws (N - 1)) (hN : i < N) (hq : 2 * T * (q : Int) ≤ sp) :
    i + q * F.length < N ∧ tk T w F ws (i + q * F.length) ≤ tk T w F ws i + sp := by
  have h1 := rots_le g i q
  refine ⟨?_, by omega⟩
  refine Nat.lt_of_not_le fun c => ?_
  have := tk_lt g (show N - 1 < i + q * F.length by omega)
  omega
end Tr
end Go.Proofs.Ytoeddkfbhjmbmaa.Ev.Q2
