/- Token rings: when visits begin, what they send, and how long a call waits; no condition but what each names. -/
import Derived.Test.YtdblfocadcgmaaaW7M2
set_option linter.unusedVariables false
set_option linter.unusedSimpArgs false
namespace Go.Proofs.Ytdblfocadcgmaaa.Ev.W7
open Go
set_option linter.unusedSimpArgs false
set_option linter.unusedVariables false

/-! #### counts -/
def cnt (p : Nat → Bool) : Nat → Nat
  | 0 => 0
  | n + 1 => cnt p n + (if p n then 1 else 0)
theorem cnt_zero (p : Nat → Bool) : cnt p 0 = 0 := rfl
theorem cnt_succ (p : Nat → Bool) (n : Nat) : cnt p (n + 1) = cnt p n + (if p n then 1 else 0) := rfl
theorem cnt_yes {p : Nat → Bool} {n : Nat} (h : p n = true) : cnt p (n + 1) = cnt p n + 1 := by rw [cnt_succ, if_pos h]
theorem cnt_no {p : Nat → Bool} {n : Nat} (h : p n = false) : cnt p (n + 1) = cnt p n := by rw [cnt_succ, if_neg (by simp [h])]; rfl
theorem cnt_le (p : Nat → Bool) (n : Nat) : cnt p n ≤ n := by
  induction n with
  | zero => simp [cnt]
  | succ n ih => rw [cnt_succ]; split <;> omega
theorem cnt_mono {p : Nat → Bool} {m n : Nat} (h : m ≤ n) : cnt p m ≤ cnt p n := by
  induction n with
  | zero => have : m = 0 := by omega
            subst this; exact Nat.le_refl _
  | succ n ih =>
    rcases Nat.lt_or_ge n m with h1 | h1
    · have : m = n + 1 := by omega
      subst this; exact Nat.le_refl _
    · have := ih h1
      rw [cnt_succ]; omega
theorem cnt_congr {p q : Nat → Bool} {n : Nat} (h : ∀ j, j < n → p j = q j) : cnt p n = cnt q n := by
  induction n with
  | zero => rfl
  | succ n ih => rw [cnt_succ, cnt_succ, ih fun j hj => h j (by omega), h n (by omega)]
theorem cnt_imp {p q : Nat → Bool} {n : Nat} (h : ∀ j, j < n → p j = true → q j = true) : cnt p n ≤ cnt q n := by
  induction n with
  | zero => exact Nat.le_refl _
  | succ n ih =>
    have h1 := ih fun j hj => h j (by omega)
    have h2 := h n (by omega)
    cases hp : p n with
    | false => rw [cnt_no hp, cnt_succ]; omega
    | true => rw [cnt_yes hp, cnt_yes (h2 hp)]; omega
theorem cnt_rest (p : Nat → Bool) (H n : Nat) : cnt (fun j => p j && !decide (cnt p j < H)) n = cnt p n - H := by
  induction n with
  | zero => simp [cnt]
  | succ n ih =>
    cases hp : p n with
    | false => rw [cnt_no (by simp [hp]), cnt_no hp, ih]
    | true =>
      rw [cnt_yes hp]
      by_cases h : cnt p n < H
      · rw [cnt_no (by simp [h]), ih]; omega
      · rw [cnt_yes (by simp [hp, h]), ih]; omega
theorem least (p : Nat → Prop) (n : Nat) (h : p n) : ∃ k, k ≤ n ∧ p k ∧ ∀ j, j < k → ¬ p j := by
  induction n using Nat.strongRecOn with
  | _ n ih =>
    by_cases hh : ∃ j, j < n ∧ p j
    · obtain ⟨j, h1, h2⟩ := hh
      obtain ⟨k, h3, h4, h5⟩ := ih j h1 h2
      exact ⟨k, by omega, h4, h5⟩
    · exact ⟨n, Nat.le_refl _, h, fun j hj hp => hh ⟨j, hj, hp⟩⟩
theorem succ_mod {k n : Nat} (hn : 0 < n) : (k + 1) % n = if k % n + 1 = n then 0 else k % n + 1 := by
  have h := Nat.mod_lt k hn
  rw [← Nat.mod_add_mod]
  split
  · rename_i h1; rw [h1, Nat.mod_self]
  · exact Nat.mod_eq_of_lt (by omega)

structure Tk where
  S : Nat
  H : Nat
  W : Nat
  L : Nat
  tk : Nat → Nat
  fr : Nat → Nat
  to : Nat → Nat
namespace Tk
structure Ok (g : Tk) : Prop where
  S2 : 2 ≤ g.S
  S12 : g.S ≤ 12
  H1 : 1 ≤ g.H
  H10 : g.H ≤ 10
  W1 : 1 ≤ g.W
  W10 : g.W ≤ 10
  L20 : g.L ≤ 20
  tk : ∀ i, i < g.L → g.tk i ≤ 1000
  fr : ∀ i, i < g.L → g.fr i < g.S
  to : ∀ i, i < g.L → g.to i < g.S
  inc : ∀ i j, i ≤ j → j < g.L → g.tk i ≤ g.tk j
variable {g : Tk}

/-- May a frame be sent by a visit? -/
def due (g : Tk) (s c : Nat) (f : Nat → Option Nat) (i : Nat) : Bool := decide (g.fr i = s) && (decide (g.tk i ≤ c) && (f i).isNone)
def st (g : Tk) : Nat → Nat × (Nat → Option Nat)
  | 0 => (0, fun _ => none)
  | k + 1 => ((st g k).1 + min (cnt (g.due (k % g.S) (st g k).1 (st g k).2) g.L) g.H + g.W,
      fun i => if g.due (k % g.S) (st g k).1 (st g k).2 i && decide (cnt (g.due (k % g.S) (st g k).1 (st g k).2) i < g.H) then some ((st g k).1 + cnt (g.due (k % g.S) (st g k).1 (st g k).2) i) else (st g k).2 i)
/-- The tick at which a visit begins. -/
def cm (g : Tk) (k : Nat) : Nat := (g.st k).1
/-- When frames begin, as far as told ahead of a visit. -/
def fl (g : Tk) (k : Nat) : Nat → Option Nat := (g.st k).2
def du (g : Tk) (k : Nat) : Nat → Bool := g.due (k % g.S) (g.cm k) (g.fl k)
/-- How many frames a visit sends. -/
def sn (g : Tk) (k : Nat) : Nat := min (cnt (g.du k) g.L) g.H
theorem cm_zero : g.cm 0 = 0 := rfl
theorem fl_zero (i : Nat) : g.fl 0 i = none := rfl
theorem cm_succ (k : Nat) : g.cm (k + 1) = g.cm k + g.sn k + g.W := rfl
theorem fl_succ (k i : Nat) : g.fl (k + 1) i = if g.du k i && decide (cnt (g.du k) i < g.H) then some (g.cm k + cnt (g.du k) i) else g.fl k i := rfl
theorem du_eq (k i : Nat) : g.du k i = (decide (g.fr i = k % g.S) && (decide (g.tk i ≤ g.cm k) && (g.fl k i).isNone)) := rfl
theorem sn_le (k : Nat) : g.sn k ≤ g.H := Nat.min_le_right _ _
theorem cm_up (k : Nat) : g.cm (k + 1) ≤ g.cm k + (g.H + g.W) := by have := sn_le (g := g) k; have e := cm_succ (g := g) k; omega
theorem cm_lt (o : g.Ok) (k : Nat) : g.cm k + 1 ≤ g.cm (k + 1) := by have := o.W1; have e := cm_succ (g := g) k; omega
theorem cm_le (o : g.Ok) {k k' : Nat} (h : k ≤ k') : g.cm k ≤ g.cm k' := by
  induction k' with
  | zero => have : k = 0 := by omega
            subst this; exact Nat.le_refl _
  | succ n ih =>
    rcases Nat.lt_or_ge n k with h1 | h1
    · have : k = n + 1 := by omega
      subst this; exact Nat.le_refl _
    · have := ih h1; have := cm_lt o n; omega
theorem le_cm (o : g.Ok) (k : Nat) : k ≤ g.cm k := by
  induction k with
  | zero => omega
  | succ n ih => have := cm_lt o n; omega
theorem cm_20 (o : g.Ok) (k : Nat) : g.cm k ≤ 20 * k := by
  induction k with
  | zero => rw [cm_zero]; omega
  | succ n ih => have := cm_up (g := g) n; have := o.H10; have := o.W10; omega
theorem fl_step {k i t : Nat} (h : g.fl k i = some t) : g.fl (k + 1) i = some t := by
  rw [fl_succ, du_eq, h]; simp
theorem fl_keep {k k' i t : Nat} (h : g.fl k i = some t) (hk : k ≤ k') : g.fl k' i = some t := by
  induction k' with
  | zero => have : k = 0 := by omega
            subst this; exact h
  | succ n ih =>
    rcases Nat.lt_or_ge n k with h1 | h1
    · have : k = n + 1 := by omega
      subst this; exact h
    · exact fl_step (ih h1)
theorem fl_new {k i t : Nat} (h0 : g.fl k i = none) (h1 : g.fl (k + 1) i = some t) : g.fr i = k % g.S ∧ g.tk i ≤ g.cm k ∧ cnt (g.du k) i < g.H ∧ t = g.cm k + cnt (g.du k) i := by
  rw [fl_succ] at h1
  split at h1
  · rename_i h
    rw [du_eq] at h
    simp only [Bool.and_eq_true, decide_eq_true_eq] at h
    exact ⟨h.1.1, h.1.2.1, h.2, by simpa using h1.symm⟩
  · rw [h0] at h1; cases h1
theorem fl_born {k i t : Nat} (h : g.fl k i = some t) : ∃ m, m < k ∧ g.fl m i = none ∧ g.fl (m + 1) i = some t := by
  induction k with
  | zero => rw [fl_zero] at h; cases h
  | succ n ih =>
    cases hn : g.fl n i with
    | none => exact ⟨n, by omega, hn, h⟩
    | some t' =>
      have e := fl_step hn
      rw [h] at e
      obtain rfl := Option.some.inj e
      obtain ⟨m, h1, h2⟩ := ih hn
      exact ⟨m, by omega, h2⟩

/-! #### how long a call waits -/
def u (g : Tk) (k i : Nat) : Nat := cnt (fun j => decide (g.fr j = g.fr i) && (g.fl k j).isNone) i
def d (g : Tk) (k i : Nat) : Nat := if k % g.S ≤ g.fr i then g.fr i - k % g.S else g.fr i + g.S - k % g.S
def R (g : Tk) : Nat := g.S * (g.H + g.W)
def P (g : Tk) (k i : Nat) : Nat := g.cm k + g.d k i * (g.H + g.W) + (g.u k i / g.H) * (g.R - g.H) + g.u k i

theorem R_ge (o : g.Ok) : g.H + g.W ≤ g.R := by
  have := Nat.mul_le_mul (show 1 ≤ g.S from by have := o.S2; omega) (Nat.le_refl (g.H + g.W))
  unfold R; omega
theorem R_le (o : g.Ok) : g.R ≤ 240 := by
  have := o.S12; have := o.H10; have := o.W10
  exact Nat.mul_le_mul (show g.S ≤ 12 by omega) (show g.H + g.W ≤ 20 by omega)

theorem P_step (o : g.Ok) {k i : Nat} (hi : i < g.L) (hn : g.fl k i = none) (ht : g.tk i ≤ g.cm k) : g.fl (k + 1) i = some (g.P k i) ∨ (g.fl (k + 1) i = none ∧ g.P (k + 1) i ≤ g.P k i) := by
  have hS : 0 < g.S := by have := o.S2; omega
  have hH := o.H1
  have hk := Nat.mod_lt k hS
  have hfr := o.fr i hi
  have hR := R_ge o
  by_cases hs : g.fr i = k % g.S
  · have hd : g.d k i = 0 := by unfold d; rw [if_pos (by omega)]; omega
    have hpj : ∀ j, j < i → g.du k j = (decide (g.fr j = g.fr i) && (g.fl k j).isNone) := by
      intro j hj
      have := o.inc j i (by omega) hi
      rw [du_eq, hs, show decide (g.tk j ≤ g.cm k) = true by simp; omega, Bool.true_and]
    have hc : cnt (g.du k) i = g.u k i := cnt_congr hpj
    have hdu : g.du k i = true := by rw [du_eq, hn]; simp [hs, ht]
    by_cases hu : g.u k i < g.H
    · left
      rw [fl_succ, hdu, hc, if_pos (by simpa using hu)]
      congr 1
      unfold P
      rw [hd, Nat.div_eq_of_lt hu]; omega
    · right
      refine ⟨by rw [fl_succ, hdu, hc, if_neg (by simpa using hu), hn], ?_⟩
      have hu' : g.u (k + 1) i = g.u k i - g.H := by
        have := cnt_rest (fun j => decide (g.fr j = g.fr i) && (g.fl k j).isNone) g.H i
        unfold u
        rw [← this]
        apply cnt_congr
        intro j hj
        have hcj : cnt (g.du k) j = cnt (fun j => decide (g.fr j = g.fr i) && (g.fl k j).isNone) j := cnt_congr fun m hm => hpj m (by omega)
        have e := hpj j hj
        rw [fl_succ, e, hcj]
        generalize cnt (fun j => decide (g.fr j = g.fr i) && (g.fl k j).isNone) j = c
        cases decide (g.fr j = g.fr i) <;> cases hf : g.fl k j <;> by_cases hcc : c < g.H <;> simp [hcc]
      have hd' : g.d (k + 1) i = g.S - 1 := by
        unfold d
        rw [succ_mod hS]
        split <;> split <;> omega
      obtain ⟨v, hv⟩ : ∃ v, g.u k i = g.H + v := ⟨g.u k i - g.H, by omega⟩
      have hv' : g.u (k + 1) i = v := by omega
      unfold P
      rw [hd, hd', hv, hv', Nat.add_div_left _ hH, Nat.succ_mul]
      generalize v / g.H * (g.R - g.H) = A
      have e1 : g.R = (g.S - 1) * (g.H + g.W) + (g.H + g.W) := by
        unfold R
        obtain ⟨q, hq⟩ : ∃ q, g.S = q + 1 := ⟨g.S - 1, by omega⟩
        rw [hq, Nat.succ_mul]; rfl
      have e2 := cm_succ (g := g) k
      have e3 := sn_le (g := g) k
      omega
  · right
    have hdu : g.du k i = false := by rw [du_eq]; simp [hs]
    refine ⟨by rw [fl_succ, hdu]; simpa using hn, ?_⟩
    have hu' : g.u (k + 1) i = g.u k i := by
      unfold u
      apply cnt_congr
      intro j hj
      by_cases hj' : g.fr j = g.fr i
      · have : g.du k j = false := by rw [du_eq, hj']; simp [hs]
        rw [fl_succ, this]; simp
      · simp [hj']
    have hd' : g.d k i = g.d (k + 1) i + 1 := by
      unfold d
      rw [succ_mod hS]
      split <;> split <;> split <;> omega
    unfold P
    rw [hu', hd', Nat.succ_mul]
    have := cm_up (g := g) k
    omega

theorem sent_by (o : g.Ok) {i : Nat} (hi : i < g.L) : ∀ (n k : Nat), g.fl k i = none → g.tk i ≤ g.cm k → g.P k i < g.cm k + n → ∃ k' t, k' ≤ k + n ∧ g.fl k' i = some t ∧ t ≤ g.P k i := by
  intro n
  induction n with
  | zero =>
    intro k _ _ h
    unfold P at h
    omega
  | succ n ih =>
    intro k hn ht h
    rcases P_step o hi hn ht with h1 | ⟨h1, h2⟩
    · exact ⟨k + 1, _, by omega, h1, Nat.le_refl _⟩
    · have := cm_lt o k
      obtain ⟨k', t, q1, q2, q3⟩ := ih (k + 1) h1 (by omega) (by omega)
      exact ⟨k', t, by omega, q2, by omega⟩

theorem first (o : g.Ok) (i : Nat) : ∃ k, k ≤ g.tk i ∧ g.tk i ≤ g.cm k ∧ g.fl k i = none ∧ ∀ j, j < k → g.cm j < g.tk i := by
  obtain ⟨k, h1, h2, h3⟩ := least (fun k => g.tk i ≤ g.cm k) (g.tk i) (le_cm o _)
  refine ⟨k, h1, h2, ?_, fun j hj => by have := h3 j hj; omega⟩
  cases hf : g.fl k i with
  | none => rfl
  | some t =>
    obtain ⟨m, q1, q2, q3⟩ := fl_born hf
    have := (fl_new q2 q3).2.1
    have := h3 m q1
    omega

theorem P_first (o : g.Ok) {i k : Nat} (hi : i < g.L) (h : ∀ j, j < k → g.cm j < g.tk i) : g.P k i + 1 ≤ g.tk i + g.R + (g.u k i / g.H) * (g.R - g.H) + g.u k i := by
  have hS : 0 < g.S := by have := o.S2; omega
  have hk := Nat.mod_lt k hS
  have hfr := o.fr i hi
  have hd : g.d k i ≤ g.S - 1 := by unfold d; split <;> omega
  have h1 := Nat.mul_le_mul hd (Nat.le_refl (g.H + g.W))
  have e1 : g.R = (g.S - 1) * (g.H + g.W) + (g.H + g.W) := by
    unfold R
    obtain ⟨q, hq⟩ : ∃ q, g.S = q + 1 := ⟨g.S - 1, by omega⟩
    rw [hq, Nat.succ_mul]; rfl
  have hH := o.H1
  unfold P
  cases k with
  | zero => rw [cm_zero]; omega
  | succ m =>
    have := h m (by omega)
    have := cm_up (g := g) m
    omega

theorem sent_in (o : g.Ok) {i : Nat} (hi : i < g.L) : ∃ t, g.fl 8000 i = some t := by
  obtain ⟨k, h1, h2, h3, h4⟩ := first o i
  obtain ⟨k', t, q1, q2, q3⟩ := sent_by o hi (g.P k i + 1) k h3 h2 (by omega)
  have hp := P_first o hi h4
  have hu : g.u k i ≤ i := cnt_le _ _
  have hL := o.L20
  have ht := o.tk i hi
  have hR := R_le o
  have hq : g.u k i / g.H ≤ g.u k i := Nat.div_le_self _ _
  have hm : (g.u k i / g.H) * (g.R - g.H) ≤ 19 * 240 := Nat.mul_le_mul (by omega) (by omega)
  exact ⟨t, fl_keep q2 (by omega)⟩

/-- When a frame begins. -/
def ft (g : Tk) (i : Nat) : Nat := (g.fl 8000 i).getD 0
theorem ft_fl (o : g.Ok) {i : Nat} (hi : i < g.L) : g.fl 8000 i = some (g.ft i) := by
  obtain ⟨t, h⟩ := sent_in o hi
  unfold ft; rw [h]; rfl
theorem ft_of {k i t : Nat} (hk : k ≤ 8000) (h : g.fl k i = some t) : t = g.ft i := by
  unfold ft; rw [fl_keep h hk]; rfl
theorem late (o : g.Ok) {k i : Nat} (hi : i < g.L) (hk : k ≤ 8000) (h : g.fl k i = none) : g.cm k ≤ g.ft i := by
  obtain ⟨m, h1, h2, h3⟩ := fl_born (ft_fl o hi)
  obtain ⟨_, _, _, e⟩ := fl_new h2 h3
  rcases Nat.lt_or_ge m k with h4 | h4
  · have := fl_keep h3 (show m + 1 ≤ k by omega)
    rw [h] at this; cases this
  · have := cm_le o h4
    omega
theorem ft_tk (o : g.Ok) {i : Nat} (hi : i < g.L) : g.tk i ≤ g.ft i := by
  obtain ⟨m, h1, h2, h3⟩ := fl_born (ft_fl o hi)
  obtain ⟨_, e1, _, e⟩ := fl_new h2 h3
  omega
theorem ft_lt (o : g.Ok) {i : Nat} (hi : i < g.L) : g.ft i ≤ 160000 := by
  obtain ⟨m, h1, h2, h3⟩ := fl_born (ft_fl o hi)
  obtain ⟨_, e1, e2, e⟩ := fl_new h2 h3
  have := cm_20 o m
  have := o.H10
  omega

def ahead (g : Tk) (i : Nat) : Nat := cnt (fun j => decide (g.fr j = g.fr i) && decide (g.tk i ≤ g.ft j)) i
theorem wait_bound (o : g.Ok) {i : Nat} (hi : i < g.L) : g.ft i + 1 ≤ g.tk i + g.R + (g.ahead i / g.H) * (g.R - g.H) + g.ahead i := by
  obtain ⟨k, h1, h2, h3, h4⟩ := first o i
  obtain ⟨k', t, q1, q2, q3⟩ := sent_by o hi (g.P k i + 1) k h3 h2 (by omega)
  have hp := P_first o hi h4
  have hu : g.u k i ≤ i := cnt_le _ _
  have hL := o.L20
  have ht := o.tk i hi
  have hR := R_le o
  have hq : g.u k i / g.H ≤ g.u k i := Nat.div_le_self _ _
  have hm : (g.u k i / g.H) * (g.R - g.H) ≤ 19 * 240 := Nat.mul_le_mul (by omega) (by omega)
  have e := ft_of (show k' ≤ 8000 by omega) q2
  have hua : g.u k i ≤ g.ahead i := by
    apply cnt_imp
    intro j hj hh
    simp only [Bool.and_eq_true, decide_eq_true_eq, Option.isNone_iff_eq_none] at hh ⊢
    have := late o (show j < g.L by omega) (show k ≤ 8000 by omega) hh.2
    exact ⟨hh.1, by omega⟩
  have hma : (g.u k i / g.H) * (g.R - g.H) ≤ (g.ahead i / g.H) * (g.R - g.H) := Nat.mul_le_mul (Nat.div_le_div_right hua) (Nat.le_refl _)
  omega
end Tk
end Go.Proofs.Ytdblfocadcgmaaa.Ev.W7
