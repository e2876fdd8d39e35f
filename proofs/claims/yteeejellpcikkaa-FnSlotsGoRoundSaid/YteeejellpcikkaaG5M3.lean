/- Slot rings: when messages fill slots, in plain numbers; no condition but that it is a ring with messages. -/
import Derived.Test.YteeejellpcikkaaG5M2
set_option linter.unusedVariables false
set_option linter.unusedSimpArgs false
namespace Go.Proofs.Yteeejellpcikkaa.Ev.G5
open Go
set_option linter.unusedSimpArgs false
set_option linter.unusedVariables false

theorem md {y n : Nat} (h : y < 2 * n) : y % n = if y < n then y else y - n := by
  split
  · exact Nat.mod_eq_of_lt (by assumption)
  · rw [Nat.mod_eq_sub_mod (by omega), Nat.mod_eq_of_lt (by omega)]

/-- A slot ring and its messages. -/
structure Rg where
  n : Nat
  home : Bool
  L : Nat
  tk : Nat → Nat
  fr : Nat → Nat
  to : Nat → Nat

structure Rg.Ok (g : Rg) : Prop where
  n2 : 2 ≤ g.n
  n12 : g.n ≤ 12
  L20 : g.L ≤ 20
  tk : ∀ i, i < g.L → g.tk i ≤ 100
  fr : ∀ i, i < g.L → g.fr i < g.n
  to : ∀ i, i < g.L → g.to i < g.n
  ne : ∀ i, i < g.L → g.fr i ≠ g.to i
  mono : ∀ i j, i ≤ j → j < g.L → g.tk i ≤ g.tk j

namespace Rg
variable {g : Rg}
def hop (g : Rg) (i : Nat) : Nat := (g.to i + g.n - g.fr i) % g.n
def life (g : Rg) (i : Nat) : Nat := if g.home = true then g.n else g.hop i
def stay (g : Rg) (i : Nat) : Nat := if g.home = true then g.n + 1 else g.hop i
/-- The slot at a station. -/
def pos (g : Rg) (a t : Nat) : Nat := (a + g.n - t % g.n) % g.n

theorem hop_eq (o : g.Ok) {i : Nat} (hi : i < g.L) : g.hop i = if g.fr i ≤ g.to i then g.to i - g.fr i else g.to i + g.n - g.fr i := by
  have h1 := o.fr i hi
  have h2 := o.to i hi
  unfold hop
  rw [md (by omega)]
  split <;> split <;> omega
theorem hop_range (o : g.Ok) {i : Nat} (hi : i < g.L) : 1 ≤ g.hop i ∧ g.hop i < g.n := by
  have h1 := o.fr i hi
  have h2 := o.to i hi
  have h3 := o.ne i hi
  rw [hop_eq o hi]
  split <;> omega
theorem life_range (o : g.Ok) {i : Nat} (hi : i < g.L) : 1 ≤ g.life i ∧ g.hop i ≤ g.life i ∧ g.life i ≤ g.n ∧ g.life i ≤ g.stay i ∧ g.stay i ≤ g.n + 1 := by
  have h1 := hop_range o hi
  unfold life stay
  split <;> omega

theorem pos_lt (o : g.Ok) (a t : Nat) : g.pos a t < g.n := Nat.mod_lt _ (by have := o.n2; omega)
theorem pos_at (o : g.Ok) {a t : Nat} (ha : a < g.n) : (g.pos a t + t) % g.n = a := by
  have hn := o.n2
  have hr : t % g.n < g.n := Nat.mod_lt _ (by omega)
  have e : (a + g.n - t % g.n) + t = a + g.n * (t / g.n + 1) := by
    have := Nat.div_add_mod t g.n
    rw [Nat.mul_add, Nat.mul_one]
    omega
  unfold pos
  rw [Nat.mod_add_mod, e, Nat.add_mul_mod_self_left, Nat.mod_eq_of_lt ha]
theorem pos_inv (o : g.Ok) {k t : Nat} (hk : k < g.n) : g.pos ((k + t) % g.n) t = k := by
  have hn := o.n2
  have hr : t % g.n < g.n := Nat.mod_lt _ (by omega)
  unfold pos
  rw [← Nat.add_mod_mod k t, md (y := k + t % g.n) (by omega)]
  split
  · rw [md (by omega), if_neg (by omega)]; omega
  · rw [md (by omega), if_pos (by omega)]; omega
theorem pos_inj (o : g.Ok) {a b t : Nat} (ha : a < g.n) (hb : b < g.n) (h : g.pos a t = g.pos b t) : a = b := by
  rw [← pos_at o (t := t) ha, h, pos_at o hb]

abbrev Fs := Nat → Option Nat
def Wt (g : Rg) (F : Fs) (a t i : Nat) : Prop := i < g.L ∧ g.fr i = a ∧ g.tk i ≤ t ∧ F i = none
def Nx (g : Rg) (F : Fs) (t i : Nat) : Prop := g.Wt F (g.fr i) t i ∧ ∀ j, j < i → ¬ g.Wt F (g.fr i) t j
/-- Something is in the slot k, or has just gone from it at its home. -/
def Bl (g : Rg) (F : Fs) (k t : Nat) : Prop := ∃ i f, i < g.L ∧ F i = some f ∧ (k + f) % g.n = g.fr i ∧ t < f + g.stay i
open Classical in
noncomputable def nxt (g : Rg) (F : Fs) (t : Nat) : Fs := fun i =>
  match F i with
  | some f => some f
  | none => if g.Nx F t i ∧ ¬ g.Bl F (g.pos (g.fr i) t) t then some t else none
/-- When each message has filled a slot, at the begin of a tick. -/
noncomputable def fl (g : Rg) : Nat → Fs
  | 0 => fun _ => none
  | t + 1 => g.nxt (g.fl t) t

theorem nxt_old {F : Fs} {t i f : Nat} (h : F i = some f) : g.nxt F t i = some f := by simp [nxt, h]
theorem nxt_new {F : Fs} {t i : Nat} (h : F i = none) (h1 : g.Nx F t i) (h2 : ¬ g.Bl F (g.pos (g.fr i) t) t) : g.nxt F t i = some t := by simp [nxt, h, h1, h2]
theorem nxt_not {F : Fs} {t i : Nat} (h : F i = none) (h1 : ¬ (g.Nx F t i ∧ ¬ g.Bl F (g.pos (g.fr i) t) t)) : g.nxt F t i = none := by
  simp only [nxt, h]
  rw [if_neg h1]
theorem nxt_some {F : Fs} {t i f : Nat} (h : g.nxt F t i = some f) : F i = some f ∨ (F i = none ∧ f = t ∧ g.Nx F t i ∧ ¬ g.Bl F (g.pos (g.fr i) t) t) := by
  cases hF : F i with
  | some f' =>
    rw [nxt_old hF] at h
    exact .inl h
  | none =>
    by_cases hc : g.Nx F t i ∧ ¬ g.Bl F (g.pos (g.fr i) t) t
    · rw [nxt_new hF hc.1 hc.2] at h
      exact .inr ⟨rfl, by simpa using h.symm, hc.1, hc.2⟩
    · rw [nxt_not hF hc] at h
      cases h

theorem fl_lt : ∀ (t : Nat) {i f : Nat}, g.fl t i = some f → f < t ∧ i < g.L ∧ g.tk i ≤ f := by
  intro t
  induction t with
  | zero => intro i f h; simp [fl] at h
  | succ t ih =>
    intro i f h
    rcases nxt_some h with h | ⟨_, rfl, h, _⟩
    · have := ih h; omega
    · exact ⟨by omega, h.1.1, h.1.2.2.1⟩
theorem fl_keep {t i f : Nat} (h : g.fl t i = some f) : ∀ {t' : Nat}, t ≤ t' → g.fl t' i = some f := by
  intro t' ht
  induction ht with
  | refl => exact h
  | step _ ih => exact nxt_old ih
theorem fl_one {t t' i f f' : Nat} (h : g.fl t i = some f) (h' : g.fl t' i = some f') : f = f' := by
  rcases Nat.le_total t t' with hl | hl
  · have := fl_keep h hl; rw [this] at h'; simpa using h'
  · have := fl_keep h' hl; rw [this] at h; simpa using h.symm
theorem fl_back {t i f : Nat} (h : g.fl t i = some f) : g.fl (f + 1) i = some f ∧ g.fl f i = none := by
  induction t with
  | zero => simp [fl] at h
  | succ t ih =>
    rcases nxt_some h with h | ⟨h0, rfl, _, _⟩
    · exact ih h
    · exact ⟨h, h0⟩

/-- In the slot k at the begin of a tick. -/
def Hold (g : Rg) (F : Fs) (t i k : Nat) : Prop := i < g.L ∧ ∃ f, F i = some f ∧ t ≤ f + g.life i ∧ (k + f) % g.n = g.fr i

theorem Nx.uniq {F : Fs} {t i j : Nat} (h : g.Nx F t i) (h' : g.Nx F t j) (e : g.fr i = g.fr j) : i = j := by
  rcases Nat.lt_trichotomy i j with hl | hl | hl
  · exact absurd (e ▸ h.1) (h'.2 i hl)
  · exact hl
  · exact absurd (e ▸ h'.1) (h.2 j hl)

theorem hold_old (o : g.Ok) {F : Fs} {t i k : Nat} (h : g.Hold F t i k) (hb : ∀ i f, F i = some f → f < t) : ∃ f, F i = some f ∧ f < t := by
  obtain ⟨_, f, hf, _⟩ := h
  exact ⟨f, hf, hb i f hf⟩

/-- In a slot there is one message at most. -/
theorem uniq (o : g.Ok) : ∀ (t : Nat) {i j k : Nat}, k < g.n → g.Hold (g.fl t) t i k → g.Hold (g.fl t) t j k → i = j := by
  intro t
  induction t with
  | zero => intro i j k hk h; obtain ⟨_, f, hf, _⟩ := h; simp [fl] at hf
  | succ t ih =>
    intro i j k hk hi hj
    have key : ∀ {x y : Nat}, g.Hold (g.fl (t + 1)) (t + 1) x k → g.fl t x = none → g.Hold (g.fl (t + 1)) (t + 1) y k → g.fl t y ≠ none → False := by
      rintro x y ⟨hx, f, hf, h1, h2⟩ hn ⟨hy, f', hf', h3, h4⟩ hy'
      rcases nxt_some hf with h | ⟨_, rfl, h5, h6⟩
      · rw [hn] at h; cases h
      · rcases nxt_some hf' with h | ⟨h, _⟩
        · apply h6
          rw [← h2, pos_inv o hk]
          have := life_range o hy
          exact ⟨y, f', hy, h, h4, by omega⟩
        · exact hy' h
    cases hi' : g.fl t i with
    | none =>
      cases hj' : g.fl t j with
      | none =>
        obtain ⟨hx, f, hf, h1, h2⟩ := hi
        obtain ⟨hy, f', hf', h3, h4⟩ := hj
        rcases nxt_some hf with h | ⟨_, rfl, h5, h6⟩
        · rw [hi'] at h; cases h
        · rcases nxt_some hf' with h | ⟨_, rfl, h7, h8⟩
          · rw [hj'] at h; cases h
          · exact h5.uniq h7 (h2.symm.trans h4)
      | some f' => exact (key hi hi' hj (by rw [hj']; simp)).elim
    | some f =>
      cases hj' : g.fl t j with
      | none => exact (key hj hj' hi (by rw [hi']; simp)).elim
      | some f' =>
        obtain ⟨hx, f0, hf, h1, h2⟩ := hi
        obtain ⟨hy, f1, hf', h3, h4⟩ := hj
        have e1 : f = f0 := by have := nxt_old (g := g) (t := t) hi'; rw [show g.nxt (g.fl t) t i = g.fl (t + 1) i from rfl, hf] at this; simpa using this.symm
        have e2 : f' = f1 := by have := nxt_old (g := g) (t := t) hj'; rw [show g.nxt (g.fl t) t j = g.fl (t + 1) j from rfl, hf'] at this; simpa using this.symm
        subst e1 e2
        exact ih hk ⟨hx, f, hi', by omega, h2⟩ ⟨hy, f', hj', by omega, h4⟩

/-- Where a message is at a tick, by the ticks since it was filled. -/
theorem at_to (o : g.Ok) {i k f t : Nat} (hi : i < g.L) (h : (k + f) % g.n = g.fr i) (h1 : f < t) (h2 : t ≤ f + g.n) : ((k + t) % g.n = g.to i ↔ t = f + g.hop i) ∧ ((k + t) % g.n = g.fr i ↔ t = f + g.n) := by
  have hn := o.n2
  have e1 := o.fr i hi
  have e2 := o.to i hi
  have e3 := o.ne i hi
  have e : (k + t) % g.n = (g.fr i + (t - f)) % g.n := by
    rw [← h, Nat.mod_add_mod]; congr 1; omega
  rw [e, md (by omega), hop_eq o hi]
  constructor
  · split <;> split <;> constructor <;> intro q <;> omega
  · split <;> constructor <;> intro q <;> omega
end Rg
end Go.Proofs.Yteeejellpcikkaa.Ev.G5
