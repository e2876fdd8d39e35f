/- Buckets and traffic as plain functions: levels, windows, first breaches, least depths and rates; no condition but what each names. -/
import Derived.Test.YtoeddkfbhjmbmaaPure0
import Derived.Test.YtoeddkfbhjmbmaaWithin
namespace Go.Proofs.Ytoeddkfbhjmbmaa.PB
open Go.RowKit Go.Proofs.YtoeddkfbhjmbmaaW.PrintWords Go.Proofs.YtoeddkfbhjmbmaaW.PrintLast Go.Proofs.YtoeddkfbhjmbmaaW.PrintMore
set_option linter.unusedVariables false
def isBk (r d : Int) : Bool := inB 1 100 r && inB 1 1000 d
def isTr (l : List Int) : Bool := decide (l.length ≤ 40) && l.all fun x => inB 0 1000 x
theorem inB_iff {a b x : Int} : inB a b x = true ↔ a ≤ x ∧ x ≤ b := by simp [inB]
theorem isBk_iff {r d : Int} : isBk r d = true ↔ (1 ≤ r ∧ r ≤ 100) ∧ 1 ≤ d ∧ d ≤ 1000 := by simp [isBk, inB_iff]
theorem isTr_iff {l : List Int} : isTr l = true ↔ l.length ≤ 40 ∧ ∀ x ∈ l, 0 ≤ x ∧ x ≤ 1000 := by simp [isTr, inB_iff]
/-- The levels of a bucket at all ticks. -/
def lev (r d : Int) : Int → List Int → List Int
  | _, [] => []
  | v, x :: l => v :: lev r d (mn d (v - x + r)) l
/-- Traffic keeps a bucket whose level is v. -/
def kp (r d : Int) : Int → List Int → Bool
  | _, [] => true
  | v, x :: l => decide (x ≤ v) && kp r d (mn d (v - x + r)) l
/-- The sum of the ticks s to t. -/
def win (l : List Int) (s t : Nat) : Int := ((l.take (t + 1)).drop s).sum
theorem win_z (x : Int) (l : List Int) : win (x :: l) 0 0 = x := by simp [win]
theorem win_zs (x : Int) (l : List Int) (t : Nat) : win (x :: l) 0 (t + 1) = x + win l 0 t := by simp [win]
theorem win_ss (x : Int) (l : List Int) (s t : Nat) : win (x :: l) (s + 1) (t + 1) = win l s t := by simp [win]
theorem win_take (l : List Int) (n s t : Nat) (h : t < n) : win (l.take n) s t = win l s t := by
  simp only [win, List.take_take]
  rw [Nat.min_eq_left (by omega)]
theorem win_step (l : List Int) : ∀ (s t : Nat), s ≤ t → t < l.length → win l s t = rd l (s : Int) + win l (s + 1) t := by
  induction l with
  | nil => intro s t h g; simp at g
  | cons x l ih =>
    intro s t h g
    cases s with
    | zero =>
      cases t with
      | zero => simp [win, rd]
      | succ t => rw [win_zs, win_ss]; simp [rd]
    | succ s =>
      obtain ⟨t, rfl⟩ : ∃ m, t = m + 1 := ⟨t - 1, by omega⟩
      rw [win_ss, win_ss, ih s t (by omega) (by simpa using g)]
      simp [rd]
theorem win_past (l : List Int) (t : Nat) : win l (t + 1) t = 0 := by
  simp only [win]
  rw [List.drop_of_length_le (by simp; omega)]
  rfl
theorem win_bound (l : List Int) (h : ∀ x ∈ l, 0 ≤ x ∧ x ≤ 1000) (t : Nat) (ht : t < l.length) : ∀ (n s : Nat), s + n = t + 1 → 0 ≤ win l s t ∧ win l s t ≤ 1000 * n := by
  intro n
  induction n with
  | zero => intro s hs; obtain rfl : s = t + 1 := by omega
            rw [win_past]; omega
  | succ n ih =>
    intro s hs
    have h1 := ih (s + 1) (by omega)
    rw [win_step l s t (by omega) ht, rd_at l s (by omega)]
    have := h l[s] (List.getElem_mem _)
    omega
theorem mul_nat_succ (r : Int) (n : Nat) : r * ((n + 1 : Nat) : Int) = r * (n : Int) + r := by
  rw [Int.natCast_add, Int.mul_add]; simp
theorem mn_le {a b x : Int} : x ≤ mn a b ↔ x ≤ a ∧ x ≤ b := by
  unfold mn
  split <;> omega
theorem kp_gen (r d : Int) (l : List Int) : ∀ v, v ≤ d → (kp r d v l = true ↔ (∀ t : Nat, t < l.length → win l 0 t ≤ v + r * (t : Int)) ∧ ∀ s t : Nat, 1 ≤ s → s ≤ t → t < l.length → win l s t ≤ d + r * ((t - s : Nat) : Int)) := by
  induction l with
  | nil => intro v hv; simp [kp]
  | cons x l ih =>
    intro v hv
    have hm : mn d (v - x + r) ≤ d := (mn_le.mp (Int.le_refl _)).1
    simp only [kp, Bool.and_eq_true, decide_eq_true_eq, ih _ hm]
    constructor
    · rintro ⟨h0, h1, h2⟩
      constructor
      · intro t ht
        cases t with
        | zero => rw [win_z]; simpa using h0
        | succ t =>
          have h3 := h1 t (by simpa using ht)
          have h4 : mn d (v - x + r) ≤ v - x + r := (mn_le.mp (Int.le_refl _)).2
          rw [win_zs, mul_nat_succ]
          omega
      · intro s t hs hst ht
        obtain ⟨s, rfl⟩ : ∃ m, s = m + 1 := ⟨s - 1, by omega⟩
        obtain ⟨t, rfl⟩ : ∃ m, t = m + 1 := ⟨t - 1, by omega⟩
        rw [win_ss, Nat.add_sub_add_right]
        cases s with
        | zero =>
          have h3 := h1 t (by simpa using ht)
          rw [Nat.sub_zero]
          omega
        | succ s => exact h2 (s + 1) t (by omega) (by omega) (by simpa using ht)
    · rintro ⟨h1, h2⟩
      refine ⟨by have := h1 0 (by simp); rw [win_z] at this; simpa using this, fun t ht => ?_, fun s t hs hst ht => ?_⟩
      · have h3 := h1 (t + 1) (by simpa using ht)
        have h4 := h2 1 (t + 1) (by omega) (by omega) (by simpa using ht)
        rw [win_zs, mul_nat_succ] at h3
        rw [win_ss x l 0 t, Nat.add_sub_cancel] at h4
        have h5 : win l 0 t - r * (t : Int) ≤ mn d (v - x + r) := mn_le.mpr (by omega)
        omega
      · have h4 := h2 (s + 1) (t + 1) (by omega) (by omega) (by simpa using ht)
        rw [win_ss, Nat.add_sub_add_right] at h4
        exact h4
/-- The traffic of ticks s to t is too great. -/
def bad (r d : Int) (l : List Int) (s t : Nat) : Bool := decide (win l s t > d + r * ((t - s : Nat) : Int))
theorem bad_false {r d : Int} {l : List Int} {s t : Nat} : bad r d l s t = false ↔ win l s t ≤ d + r * ((t - s : Nat) : Int) := by
  simp [bad]
theorem kp_iff (r d : Int) (l : List Int) : kp r d d l = true ↔ ∀ s t : Nat, s ≤ t → t < l.length → bad r d l s t = false := by
  rw [kp_gen r d l d (Int.le_refl _)]
  constructor
  · rintro ⟨h1, h2⟩ s t hst ht
    rw [bad_false]
    cases s with
    | zero => exact h1 t ht
    | succ s => exact h2 (s + 1) t (by omega) hst ht
  · intro h
    exact ⟨fun t ht => by have := bad_false.mp (h 0 t (by omega) ht); rwa [Nat.sub_zero] at this, fun s t hs hst ht => bad_false.mp (h s t hst ht)⟩
/-- The greatest tick below n from which on traffic is too great at t. -/
def fbIn (r d : Int) (l : List Int) (t : Nat) : Nat → Option Nat
  | 0 => none
  | s + 1 => if bad r d l s t = true then some s else fbIn r d l t s
def fbOut (r d : Int) (l : List Int) : Nat → Nat → List Int × Bool
  | _, 0 => ([], false)
  | t, n + 1 => match fbIn r d l t (t + 1) with
    | some s => ([(s : Int), (t : Int)], true)
    | none => fbOut r d l (t + 1) n
theorem fbIn_none {r d : Int} {l : List Int} {t : Nat} : ∀ {n : Nat}, fbIn r d l t n = none → ∀ s, s < n → bad r d l s t = false := by
  intro n
  induction n with
  | zero => intro h s hs; omega
  | succ n ih =>
    intro h s hs
    simp only [fbIn] at h
    split at h
    · cases h
    · rename_i hb
      by_cases e : s = n
      · subst e; simpa using hb
      · exact ih h s (by omega)
theorem fbIn_some {r d : Int} {l : List Int} {t u : Nat} : ∀ {n : Nat}, fbIn r d l t n = some u → u < n ∧ bad r d l u t = true := by
  intro n
  induction n with
  | zero => intro h; cases h
  | succ n ih =>
    intro h
    simp only [fbIn] at h
    split at h
    · cases h; exact ⟨by omega, by assumption⟩
    · have := ih h; exact ⟨by omega, this.2⟩
theorem fbOut_facts {r d : Int} {l : List Int} : ∀ (n t : Nat), t + n = l.length → (∀ s' t' : Nat, s' ≤ t' → t' < t → bad r d l s' t' = false) →
    (fbOut r d l t n = ([], false) ∧ kp r d d l = true) ∨ (∃ s u : Nat, fbOut r d l t n = ([(s : Int), (u : Int)], true) ∧ s ≤ u ∧ u < l.length ∧ bad r d l s u = true ∧ ∀ s' t' : Nat, s' ≤ t' → t' < u → bad r d l s' t' = false) := by
  intro n
  induction n with
  | zero =>
    intro t ht h
    exact .inl ⟨rfl, (kp_iff r d l).mpr fun s' t' h1 h2 => h s' t' h1 (by omega)⟩
  | succ n ih =>
    intro t ht h
    simp only [fbOut]
    cases hf : fbIn r d l t (t + 1) with
    | none =>
      exact ih (t + 1) (by omega) fun s' t' h1 h2 => by
        by_cases e : t' = t
        · subst e; exact fbIn_none hf s' (by omega)
        · exact h s' t' h1 (by omega)
    | some s =>
      obtain ⟨h1, h2⟩ := fbIn_some hf
      exact .inr ⟨s, t, rfl, by omega, by omega, h2, h⟩
/-- What FirstBreach tells of a bucket and traffic. -/
def fbR (r d : Int) (l : List Int) : List Int × Bool := if (isBk r d && isTr l) = true then fbOut r d l 0 l.length else ([], false)
def levR (r d : Int) (l : List Int) : List Int × Bool := if (isBk r d && isTr l && kp r d d l) = true then (lev r d d l, true) else ([], false)
def kbR (r d : Int) (l : List Int) : Bool × Bool := if (isBk r d && isTr l) = true then (kp r d d l, true) else (false, false)
theorem isTr_take {l : List Int} (h : isTr l = true) (n : Nat) : isTr (l.take n) = true := by
  rw [isTr_iff] at *
  exact ⟨by rw [List.length_take]; omega, fun x hx => h.2 x (List.mem_of_mem_take hx)⟩
/-- What the law asks of a first breach. -/
theorem fb_facts (r d : Int) (l : List Int) (hb : isBk r d = true) (ht : isTr l = true) :
    (kp r d d l = true ∧ fbR r d l = ([], false)) ∨ (kp r d d l = false ∧ ∃ s u : Nat, fbR r d l = ([(s : Int), (u : Int)], true) ∧ s ≤ u ∧ u < l.length ∧ win l s u > d + r * ((u - s : Nat) : Int) ∧ kbR r d (l.take u) = (true, true)) := by
  have e : fbR r d l = fbOut r d l 0 l.length := by simp [fbR, hb, ht]
  rw [e]
  rcases fbOut_facts (r := r) (d := d) (l := l) l.length 0 (by omega) (fun _ _ _ h => by omega) with ⟨h1, h2⟩ | ⟨s, u, h1, h2, h3, h4, h5⟩
  · exact .inl ⟨h2, h1⟩
  · refine .inr ⟨?_, s, u, h1, h2, h3, by simpa [bad] using h4, ?_⟩
    · cases hk : kp r d d l with
      | false => rfl
      | true => have := (kp_iff r d l).mp hk s u h2 h3; rw [h4] at this; cases this
    · have hk : kp r d d (l.take u) = true := (kp_iff r d _).mpr fun s' t' g1 g2 => by
        rw [List.length_take] at g2
        have := h5 s' t' g1 (by omega)
        simpa only [bad, win_take l u s' t' (by omega)] using this
      simp [kbR, hb, isTr_take ht, hk]
/-- A greatest of numbers at pairs, and 1. -/
def Top (f : Nat → Nat → Int) (P : Nat → Nat → Prop) (x : Int) : Prop := 1 ≤ x ∧ (∀ s t, P s t → f s t ≤ x) ∧ (x = 1 ∨ ∃ s t, P s t ∧ f s t = x)
theorem Top.one (f : Nat → Nat → Int) : Top f (fun _ _ => False) 1 := ⟨by omega, fun _ _ h => h.elim, .inl rfl⟩
theorem Top.step {f : Nat → Nat → Int} {P Q : Nat → Nat → Prop} {x : Int} (h : Top f P x) (s t : Nat) (hQ : ∀ a b, Q a b ↔ P a b ∨ (a = s ∧ b = t)) : Top f Q (mx x (f s t)) := by
  obtain ⟨h1, h2, h3⟩ := h
  have hm : (x < f s t ∧ mx x (f s t) = f s t) ∨ (f s t ≤ x ∧ mx x (f s t) = x) := by unfold mx; split <;> simp_all
  rcases hm with ⟨g1, g2⟩ | ⟨g1, g2⟩ <;> rw [g2]
  · refine ⟨by omega, fun a b hab => ?_, .inr ⟨s, t, (hQ s t).mpr (.inr ⟨rfl, rfl⟩), rfl⟩⟩
    rcases (hQ a b).mp hab with h | ⟨rfl, rfl⟩
    · have := h2 a b h; omega
    · omega
  · refine ⟨h1, fun a b hab => ?_, ?_⟩
    · rcases (hQ a b).mp hab with h | ⟨rfl, rfl⟩
      · exact h2 a b h
      · exact g1
    · rcases h3 with h3 | ⟨a, b, hab, e⟩
      · exact .inl h3
      · exact .inr ⟨a, b, (hQ a b).mpr (.inl hab), e⟩
theorem Top.congr {f : Nat → Nat → Int} {P Q : Nat → Nat → Prop} {x : Int} (h : Top f P x) (hQ : ∀ a b, Q a b ↔ P a b) : Top f Q x := by
  obtain ⟨h1, h2, h3⟩ := h
  exact ⟨h1, fun a b hab => h2 a b ((hQ a b).mp hab), h3.elim .inl fun ⟨a, b, hab, e⟩ => .inr ⟨a, b, (hQ a b).mpr hab, e⟩⟩
theorem Top.unique {f : Nat → Nat → Int} {P : Nat → Nat → Prop} {x y : Int} (h : Top f P x) (g : Top f P y) : x = y := by
  obtain ⟨h1, h2, h3⟩ := h
  obtain ⟨g1, g2, g3⟩ := g
  have a : x ≤ y := by
    rcases h3 with rfl | ⟨s, t, hp, e⟩
    · exact g1
    · rw [← e]; exact g2 s t hp
  have b : y ≤ x := by
    rcases g3 with rfl | ⟨s, t, hp, e⟩
    · exact h1
    · rw [← e]; exact h2 s t hp
  omega
/-- What a bucket of a rate wants of the ticks s to t. -/
def want (r : Int) (l : List Int) (s t : Nat) : Int := win l s t - r * ((t - s : Nat) : Int)
def allP (l : List Int) (s t : Nat) : Prop := s ≤ t ∧ t < l.length
theorem keeps_of_top {r x : Int} {l : List Int} (h : Top (want r l) (allP l) x) : kp r x x l = true :=
  (kp_iff r x l).mpr fun s t h1 h2 => by
    have := h.2.1 s t ⟨h1, h2⟩
    unfold want at this
    rw [bad_false]
    omega
theorem less_of_top {r x : Int} {l : List Int} (h : Top (want r l) (allP l) x) (h1 : 1 ≤ x - 1) : kp r (x - 1) (x - 1) l = false := by
  cases hk : kp r (x - 1) (x - 1) l with
  | false => rfl
  | true =>
    rcases h.2.2 with rfl | ⟨s, t, hp, e⟩
    · omega
    · have := bad_false.mp ((kp_iff r (x - 1) l).mp hk s t hp.1 hp.2)
      unfold want at e
      omega
/-- What is told of a least depth. -/
def ldOk (r : Int) (l : List Int) (x : Int) (b : Bool) : Prop :=
  ((inB 1 100 r && isTr l) = true ∧ ∃ y, Top (want r l) (allP l) y ∧ ((1000 < y ∧ x = 0 ∧ b = false) ∨ (y ≤ 1000 ∧ x = y ∧ b = true))) ∨ ((inB 1 100 r && isTr l) = false ∧ x = 0 ∧ b = false)
theorem ldOk_unique {r : Int} {l : List Int} {x y : Int} {b c : Bool} (h : ldOk r l x b) (g : ldOk r l y c) : x = y ∧ b = c := by
  rcases h with ⟨h1, u, h2, h3⟩ | ⟨h1, h2, h3⟩ <;> rcases g with ⟨g1, w, g2, g3⟩ | ⟨g1, g2, g3⟩
  · obtain rfl := h2.unique g2
    rcases h3 with ⟨p1, p2, p3⟩ | ⟨p1, p2, p3⟩ <;> rcases g3 with ⟨q1, q2, q3⟩ | ⟨q1, q2, q3⟩
    · exact ⟨by omega, by rw [p3, q3]⟩
    · omega
    · omega
    · exact ⟨by omega, by rw [p3, q3]⟩
  · rw [h1] at g1; cases g1
  · rw [h1] at g1; cases g1
  · exact ⟨by omega, by rw [h3, g3]⟩
theorem ld_facts {r : Int} {l : List Int} {x : Int} (h : ldOk r l x true) : kbR r x l = (true, true) ∧ ∃ six, kbR r (x - 1) l = (false, six) := by
  rcases h with ⟨h1, u, h2, h3⟩ | ⟨_, _, h3⟩
  · rcases h3 with ⟨_, _, h⟩ | ⟨h3, rfl, _⟩
    · cases h
    · simp only [Bool.and_eq_true] at h1
      have hr := inB_iff.mp h1.1
      have hb : isBk r x = true := isBk_iff.mpr ⟨hr, h2.1, h3⟩
      refine ⟨by simp [kbR, hb, h1.2, keeps_of_top h2], ?_⟩
      unfold kbR
      split
      · rename_i hh
        simp only [Bool.and_eq_true] at hh
        have := isBk_iff.mp hh.1
        exact ⟨true, by rw [less_of_top h2 (by omega)]⟩
      · exact ⟨false, rfl⟩
  · cases h3
def lrS (d : Int) (l : List Int) : Nat → Int → Int × Bool
  | 0, _ => (0, false)
  | n + 1, i => if kp i d d l = true then (i, true) else lrS d l n (i + 1)
def lrR (d : Int) (l : List Int) : Int × Bool := if (inB 1 1000 d && isTr l) = true then lrS d l 100 1 else (0, false)
theorem lrS_facts {d : Int} {l : List Int} {x : Int} : ∀ (n : Nat) (i : Int), lrS d l n i = (x, true) → i ≤ x ∧ x < i + n ∧ kp x d d l = true ∧ ∀ y, i ≤ y → y < x → kp y d d l = false := by
  intro n
  induction n with
  | zero => intro i h; cases h
  | succ n ih =>
    intro i h
    simp only [lrS] at h
    split at h
    · cases h; exact ⟨by omega, by omega, by assumption, fun y _ _ => by omega⟩
    · rename_i hk
      obtain ⟨h1, h2, h3, h4⟩ := ih (i + 1) h
      refine ⟨by omega, by omega, h3, fun y hy1 hy2 => ?_⟩
      by_cases e : y = i
      · subst e; simpa using hk
      · exact h4 y (by omega) hy2
theorem lr_facts {d : Int} {l : List Int} {x : Int} (h : lrR d l = (x, true)) : kbR x d l = (true, true) ∧ ∃ six, kbR (x - 1) d l = (false, six) := by
  unfold lrR at h
  split at h
  · rename_i hh
    simp only [Bool.and_eq_true] at hh
    have hd := inB_iff.mp hh.1
    obtain ⟨h1, h2, h3, h4⟩ := lrS_facts 100 1 h
    have hb : isBk x d = true := isBk_iff.mpr ⟨by omega, hd⟩
    refine ⟨by simp [kbR, hb, hh.2, h3], ?_⟩
    unfold kbR
    split
    · rename_i hg
      simp only [Bool.and_eq_true] at hg
      have := isBk_iff.mp hg.1
      exact ⟨true, by rw [h4 (x - 1) (by omega) (by omega)]⟩
    · exact ⟨false, rfl⟩
  · cases h
/-- The levels are those that the law asks for. -/
theorem lev_length (r d : Int) (l : List Int) : ∀ v, (lev r d v l).length = l.length := by
  induction l with
  | nil => intro v; rfl
  | cons x l ih => intro v; simp [lev, ih]
theorem rd_cons_s (x : Int) (l : List Int) (i : Nat) : rd (x :: l) ((i + 1 : Nat) : Int) = rd l (i : Int) := by
  rw [rd_nat, rd_nat]
  rfl
theorem lev_at (r d : Int) (l : List Int) : ∀ v, v ≤ d → kp r d v l = true → ∀ i : Nat, i < l.length → rd l i ≤ rd (lev r d v l) i ∧ rd (lev r d v l) i ≤ d ∧ (0 < i → rd (lev r d v l) i ≤ rd (lev r d v l) ((i - 1 : Nat) : Int) - rd l ((i - 1 : Nat) : Int) + r) := by
  induction l with
  | nil => intro v hv h i hi; simp at hi
  | cons x l ih =>
    intro v hv h i hi
    simp only [kp, Bool.and_eq_true, decide_eq_true_eq] at h
    have hm : mn d (v - x + r) ≤ d ∧ mn d (v - x + r) ≤ v - x + r := mn_le.mp (Int.le_refl _)
    cases i with
    | zero => exact ⟨by simpa [rd, lev] using h.1, by simpa [rd, lev] using hv, fun h0 => by omega⟩
    | succ i =>
      obtain ⟨h1, h2, h3⟩ := ih _ hm.1 h.2 i (by simpa using hi)
      have e1 : rd (x :: l) ((i + 1 : Nat) : Int) = rd l (i : Int) := rd_cons_s _ _ _
      have e2 : rd (lev r d v (x :: l)) ((i + 1 : Nat) : Int) = rd (lev r d (mn d (v - x + r)) l) (i : Int) := rd_cons_s _ _ _
      rw [e1, e2, Nat.add_sub_cancel]
      refine ⟨h1, h2, fun _ => ?_⟩
      cases i with
      | zero =>
        obtain ⟨y, l', rfl⟩ : ∃ y l', l = y :: l' := by
          cases l with
          | nil => simp at hi
          | cons y l' => exact ⟨y, l', rfl⟩
        simpa [rd, lev] using hm.2
      | succ i =>
        have h3 := h3 (by omega)
        rw [Nat.add_sub_cancel] at h3
        have e3 : rd (x :: l) ((i + 1 : Nat) : Int) = rd l (i : Int) := rd_cons_s _ _ _
        have e4 : rd (lev r d v (x :: l)) ((i + 1 : Nat) : Int) = rd (lev r d (mn d (v - x + r)) l) (i : Int) := rd_cons_s _ _ _
        rw [e3, e4]
        exact h3
end Go.Proofs.Ytoeddkfbhjmbmaa.PB
