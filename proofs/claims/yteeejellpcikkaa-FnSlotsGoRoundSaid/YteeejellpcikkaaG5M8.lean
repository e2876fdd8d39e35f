/- Slot rings: all messages are read in time; what the programs answer; no condition but that it is a ring with messages. -/
import Derived.Test.YteeejellpcikkaaG5M7
set_option linter.unusedVariables false
set_option linter.unusedSimpArgs false
namespace Go.Proofs.Yteeejellpcikkaa.Ev.G5
open Go
set_option linter.unusedSimpArgs false
set_option linter.unusedVariables false

theorem countP_lt {α : Type} {p q : α → Bool} : ∀ (l : List α), (∀ x, x ∈ l → p x = true → q x = true) → (∃ x, x ∈ l ∧ q x = true ∧ p x = false) → l.countP p < l.countP q := by
  intro l
  induction l with
  | nil => rintro _ ⟨x, hx, _⟩; simp at hx
  | cons a l ih =>
    rintro h1 ⟨x, hx, h2, h3⟩
    have hle : l.countP p ≤ l.countP q := List.countP_mono_left fun x hx => h1 x (List.mem_cons_of_mem _ hx)
    rw [List.countP_cons, List.countP_cons]
    rcases List.mem_cons.1 hx with rfl | hx
    · simp [h2, h3]; omega
    · have := ih (fun x hx => h1 x (List.mem_cons_of_mem _ hx)) ⟨x, hx, h2, h3⟩
      have ha := h1 a (by simp)
      cases hp : p a with
      | false => simp only [Bool.false_eq_true, if_false]; split <;> omega
      | true => simp only [ha hp, if_true]; omega

theorem contains_eq (l : List Int) (v : Int) (hl : l.length ≤ 1000000) : slices_Contains l v = some (decide (v ∈ l)) := by
  have h := iter_find (step := slices_Index_s1 l v) l (fun i => (i : Int)) (fun x _ => v == x) (fun i => .inr (i : Int)) (.inl ())
    (fun i x hi hx hp => by simp only [slices_Index_s1, at_eq, hx, Option.bind_some, hp]; simp [hi, w64_nat1 (show i ≤ 4611686018427387904 by omega)])
    (fun i x hi hx hp => by simp only [slices_Index_s1, at_eq, hx, Option.bind_some, hp]; simp [hi])
    (by simp [slices_Index_s1])
  have e0 : ((0 : Nat) : Int) = 0 := rfl
  rw [e0] at h
  unfold slices_Contains slices_Index slices_Index_l1
  rcases h with ⟨i, x, h1, h2, h3, h4, h5⟩ | ⟨h1, h2⟩
  · have hx : v = x := by simpa using h3
    subst hx
    have hm := List.mem_of_getElem? h2
    rw [h5]
    simp [hm]
  · have hm : v ∉ l := by
      intro hm
      obtain ⟨i, hi⟩ := List.getElem?_of_mem hm
      have := h1 i v hi
      simp at this
    rw [h2]
    simp [hm]

namespace Rg
variable {g : Rg} {ms : List Msg}

/-- Read by a tick. -/
def Rd (g : Rg) (t i : Nat) : Prop := ∃ f, g.fl t i = some f ∧ f + g.hop i < t
theorem Rd.mono {t t' i : Nat} (h : g.Rd t i) (ht : t ≤ t') : g.Rd t' i := by
  obtain ⟨f, h1, h2⟩ := h
  exact ⟨f, fl_keep h1 ht, by omega⟩
theorem rd_of (o : g.Ok) {t t' i f : Nat} (h : g.fl t i = some f) (h1 : t ≤ t') (h2 : f + g.hop i < t') : g.Rd t' i := ⟨f, fl_keep h h1, h2⟩

/-- Within two rounds one more is read. -/
theorem more (o : g.Ok) {t : Nat} (ht : ∀ i, i < g.L → g.tk i ≤ t) {i : Nat} (hi : i < g.L) (hn : ¬ g.Rd t i) : ∃ j, j < g.L ∧ ¬ g.Rd t j ∧ g.Rd (t + 2 * g.n) j := by
  have hn2 := o.n2
  by_cases h1 : ∃ j f, j < g.L ∧ g.fl t j = some f ∧ ¬ g.Rd t j
  · obtain ⟨j, f, hj, hf, hr⟩ := h1
    have := (fl_lt t hf).1
    have := hop_range o hj
    exact ⟨j, hj, hr, rd_of o hf (by omega) (by omega)⟩
  · have all : ∀ j f, g.fl t j = some f → f + g.hop j < t := by
      intro j f hf
      have hj := (fl_lt t hf).2.1
      by_cases hr : g.Rd t j
      · obtain ⟨f', hf', h⟩ := hr
        rw [hf] at hf'
        obtain rfl := by simpa using hf'
        exact h
      · exact absurd ⟨j, f, hj, hf, hr⟩ h1
    by_cases h2 : ∃ j f, g.fl (t + g.n) j = some f ∧ g.fl t j = none
    · obtain ⟨j, f, hf, hno⟩ := h2
      have hfl := fl_lt _ hf
      have := hop_range o hfl.2.1
      refine ⟨j, hfl.2.1, ?_, rd_of o hf (by omega) (by omega)⟩
      rintro ⟨f', h, _⟩
      rw [hno] at h
      cases h
    · have same : ∀ j f, g.fl (t + g.n) j = some f → g.fl t j = some f := by
        intro j f hf
        cases hF : g.fl t j with
        | none => exact absurd ⟨j, f, hf, hF⟩ h2
        | some f' => rw [fl_one hF hf]
      have hnone : g.fl (t + g.n) i = none := by
        cases hF : g.fl (t + g.n) i with
        | none => rfl
        | some f =>
          have h3 := same i f hF
          exact absurd ⟨f, h3, all i f h3⟩ hn
      -- the first that waits there
      have hmin : ∃ j, g.Wt (g.fl (t + g.n)) (g.fr i) (t + g.n) j ∧ ∀ j', j' < j → ¬ g.Wt (g.fl (t + g.n)) (g.fr i) (t + g.n) j' := by
        have h0 : ∃ j, g.Wt (g.fl (t + g.n)) (g.fr i) (t + g.n) j := ⟨i, hi, rfl, by have := ht i hi; omega, hnone⟩
        obtain ⟨j, hj⟩ := h0
        induction j using Nat.strongRecOn with
        | _ j ih =>
          by_cases hj' : ∃ j', j' < j ∧ g.Wt (g.fl (t + g.n)) (g.fr i) (t + g.n) j'
          · obtain ⟨j', q1, q2⟩ := hj'; exact ih j' q1 q2
          · exact ⟨j, hj, fun j' q1 q2 => hj' ⟨j', q1, q2⟩⟩
      obtain ⟨j, h3, h4⟩ := hmin
      have hfr := h3.2.1
      have hnx : g.Nx (g.fl (t + g.n)) (t + g.n) j := ⟨by rw [hfr]; exact h3, by rw [hfr]; exact h4⟩
      have hnb : ¬ g.Bl (g.fl (t + g.n)) (g.pos (g.fr j) (t + g.n)) (t + g.n) := by
        rintro ⟨x, f, hx, hf, _, hs⟩
        have hf' := same x f hf
        have h5 := all x f hf'
        have h6 := (fl_lt t hf').1
        have h7 := hop_range o hx
        unfold stay at hs
        split at hs <;> omega
      have hnew : g.fl (t + g.n + 1) j = some (t + g.n) := nxt_new h3.2.2.2 hnx hnb
      have := hop_range o h3.1
      refine ⟨j, h3.1, ?_, rd_of o hnew (by omega) (by omega)⟩
      rintro ⟨f, h, _⟩
      have := fl_keep h (show t ≤ t + g.n by omega)
      rw [h3.2.2.2] at this
      cases this

/-- The last tick of a message. -/
def T0 (g : Rg) : Nat := if g.L = 0 then 0 else g.tk (g.L - 1)
theorem T0_le (o : g.Ok) : g.T0 ≤ 100 := by
  unfold T0
  split
  · omega
  · exact o.tk _ (by omega)
theorem tk_T0 (o : g.Ok) {i : Nat} (hi : i < g.L) : g.tk i ≤ g.T0 := by
  unfold T0
  rw [if_neg (by omega)]
  exact o.mono _ _ (by omega) (by omega)

open Classical in
noncomputable def cnt (g : Rg) (t : Nat) : Nat := (List.range g.L).countP fun i => decide (g.Rd t i)
open Classical in
theorem cnt_ok (o : g.Ok) : ∀ j, j ≤ g.L → j ≤ g.cnt (g.T0 + 2 * g.n * j) := by
  intro j
  induction j with
  | zero => intro _; omega
  | succ j ih =>
    intro hj
    have h1 := ih (by omega)
    have e : g.T0 + 2 * g.n * (j + 1) = (g.T0 + 2 * g.n * j) + 2 * g.n := by rw [Nat.mul_add]; omega
    rw [e]
    generalize hT : g.T0 + 2 * g.n * j = T at h1 ⊢
    have mono : ∀ x, x ∈ List.range g.L → decide (g.Rd T x) = true → decide (g.Rd (T + 2 * g.n) x) = true := by
      intro x _ h
      exact decide_eq_true ((of_decide_eq_true h).mono (by omega))
    by_cases hall : ∀ i, i < g.L → g.Rd T i
    · have : g.cnt (T + 2 * g.n) = g.L := by
        unfold cnt
        have h := List.countP_eq_length (p := fun i => decide (g.Rd (T + 2 * g.n) i)) (l := List.range g.L)
        rw [List.length_range] at h
        exact h.2 fun x hx => decide_eq_true ((hall x (List.mem_range.1 hx)).mono (by omega))
      omega
    · have hex : ∃ i, i < g.L ∧ ¬ g.Rd T i := by
        rcases Classical.em (∃ i, i < g.L ∧ ¬ g.Rd T i) with h | h
        · exact h
        · exfalso
          apply hall
          intro i hi
          rcases Classical.em (g.Rd T i) with h' | h'
          · exact h'
          · exact absurd ⟨i, hi, h'⟩ h
      obtain ⟨i, hi, hn⟩ := hex
      obtain ⟨x, hx, h2, h3⟩ := more o (t := T) (fun i hi => by have := tk_T0 o hi; omega) hi hn
      have := countP_lt (List.range g.L) mono ⟨x, List.mem_range.2 hx, decide_eq_true h3, decide_eq_false h2⟩
      unfold cnt at h1 ⊢
      omega

/-- By this tick all are read. -/
def E (g : Rg) : Nat := g.T0 + 2 * g.n * g.L
theorem E_le (o : g.Ok) : g.E ≤ 600 := by
  have h1 := T0_le o
  have h2 := o.n12
  have h3 := o.L20
  unfold E
  have : 2 * g.n * g.L ≤ 24 * 20 := Nat.mul_le_mul (by omega) h3
  omega
theorem all_rd (o : g.Ok) {i : Nat} (hi : i < g.L) : g.Rd g.E i := by
  have h := cnt_ok o g.L (Nat.le_refl _)
  have hle : (List.range g.L).countP (fun i => @decide (g.Rd g.E i) (Classical.propDecidable _)) ≤ (List.range g.L).length := List.countP_le_length
  have h2 := List.countP_eq_length (p := fun i => @decide (g.Rd g.E i) (Classical.propDecidable _)) (l := List.range g.L)
  rw [List.length_range] at hle h2
  have h3 := h2.1 (by unfold cnt at h; exact Nat.le_antisymm hle h) i (List.mem_range.2 hi)
  simpa using h3

/-- When it fills its slot at last. -/
noncomputable def ft (g : Rg) (i : Nat) : Nat := (g.fl g.E i).getD 0
theorem ft_eq (o : g.Ok) {i : Nat} (hi : i < g.L) : g.fl g.E i = some (g.ft i) ∧ g.ft i + g.hop i < g.E := by
  obtain ⟨f, h1, h2⟩ := all_rd o hi
  have : g.ft i = f := by simp [ft, h1]
  rw [this]
  exact ⟨h1, h2⟩
theorem fl_ft (o : g.Ok) {t i f : Nat} (h : g.fl t i = some f) : f = g.ft i := fl_one h (ft_eq o (fl_lt t h).2.1).1
theorem fl_iff (o : g.Ok) {t i : Nat} (hi : i < g.L) : g.fl t i = if g.ft i < t then some (g.ft i) else none := by
  have h := (ft_eq o hi).1
  split
  · rename_i hlt
    have := (fl_back h).1
    exact fl_keep this (by omega)
  · rename_i hlt
    cases hF : g.fl t i with
    | none => rfl
    | some f =>
      have e := fl_ft o hF
      have := (fl_lt t hF).1
      omega
theorem fl_late (o : g.Ok) {t i : Nat} (hi : i < g.L) (ht : g.Rd t i) : g.ft i + g.hop i < t := by
  obtain ⟨f, h1, h2⟩ := ht
  rw [fl_ft o h1] at h2
  exact h2

noncomputable def ftL (g : Rg) : List Int := (List.range g.L).map fun i => (g.ft i : Int)
noncomputable def reL (g : Rg) : List Int := (List.range g.L).map fun i => ((g.ft i + g.hop i : Nat) : Int)
theorem late (o : g.Ok) {t : Nat} (h : ∀ i, i < g.L → g.Rd t i) : g.flL t = g.ftL ∧ g.rdL t = g.reL := by
  have hx : ∀ i, i < g.L → g.fl t i = some (g.ft i) ∧ g.ft i + g.hop i < t := by
    intro i hi
    have h1 := fl_late o hi (h i hi)
    exact ⟨by rw [fl_iff o hi, if_pos (by omega)], h1⟩
  exact ⟨mapr_eq fun i hi => by simp [fV, (hx i hi).1], mapr_eq fun i hi => by
    obtain ⟨h1, h2⟩ := hx i hi
    simp only [rV, h1]
    rw [if_pos h2]⟩
theorem no_rd (o : g.Ok) {t : Nat} : (-1 : Int) ∉ g.rdL t ↔ ∀ i, i < g.L → g.Rd t i := by
  constructor
  · intro h i hi
    rcases Classical.em (g.Rd t i) with h' | h'
    · exact h'
    · exfalso
      apply h
      refine List.mem_map.2 ⟨i, List.mem_range.2 hi, ?_⟩
      unfold rV
      cases hF : g.fl t i with
      | none => rfl
      | some f =>
        dsimp only
        rw [if_neg fun hlt => h' ⟨f, hF, hlt⟩]
  · intro h hm
    obtain ⟨i, hi, hv⟩ := List.mem_map.1 hm
    obtain ⟨f, h1, h2⟩ := h i (List.mem_range.1 hi)
    simp only [rV, h1] at hv
    rw [if_pos h2] at hv
    omega

theorem impl_slotted_ok (o : g.Ok) (hm : Fits g ms) : impl_slotted ((g.n : Int), g.home) ms = some (g.ftL, g.reL) := by
  have hE := E_le o
  have hL := o.L20
  have key := iter_ex (step := impl_slotted_s1) (fun m s => ∃ t, s = g.stI ms t ∧ t ≤ g.E ∧ m = g.E - t) (fun r => r.2.2.2.2.2.1 = g.ftL ∧ r.2.2.2.2.2.2 = g.reL) (by
    rintro m s ⟨t, rfl, ht, rfl⟩
    unfold impl_slotted_s1
    show (∃ r, (slices_Contains (g.rdL t) (-1)).bind _ = _ ∧ _) ∨ ∃ s' m, _ ∧ (slices_Contains (g.rdL t) (-1)).bind _ = _ ∧ _
    rw [contains_eq _ _ (by show ((List.range g.L).map _).length ≤ _; rw [mapr_len]; omega), Option.bind_some]
    by_cases h : (-1 : Int) ∈ g.rdL t
    · right
      rw [if_pos (by simpa using h)]
      have hlt : t < g.E := by
        rcases Nat.lt_or_ge t g.E with h' | h'
        · exact h'
        · obtain rfl : t = g.E := by omega
          exact absurd h ((no_rd o).2 fun i hi => all_rd o hi)
      have := impl_step_ok o hm (t := t) (by omega)
      unfold stI at this ⊢
      rw [this, Option.bind_some]
      exact ⟨_, g.E - (t + 1), by omega, rfl, t + 1, rfl, by omega, rfl⟩
    · left
      rw [if_neg (by simpa using h)]
      refine ⟨_, rfl, ?_⟩
      exact late o ((no_rd o).1 h)) (g.E - 0) (g.stI ms 0) ⟨0, rfl, by omega, rfl⟩
  obtain ⟨r, h1, h2, h3⟩ := key
  obtain ⟨a, b, c, d, e, x, y⟩ := r
  dsimp only at h2 h3
  subst h2 h3
  unfold impl_slotted impl_slotted_l1
  rw [impl_new_ok o hm, Option.bind_some]
  unfold stI at h1 ⊢
  dsimp only
  rw [h1]
  rfl
end Rg
end Go.Proofs.Yteeejellpcikkaa.Ev.G5
