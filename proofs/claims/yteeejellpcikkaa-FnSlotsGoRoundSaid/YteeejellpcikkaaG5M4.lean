/- Slot rings: one slot after the other within a tick, in plain lists; no condition but that it is a ring with messages. -/
import Derived.Test.YteeejellpcikkaaG5M3
set_option linter.unusedVariables false
set_option linter.unusedSimpArgs false
namespace Go.Proofs.Yteeejellpcikkaa.Ev.G5
open Go
set_option linter.unusedSimpArgs false
set_option linter.unusedVariables false
namespace Rg
variable {g : Rg}

def fV (F : Fs) (i : Nat) : Int := match F i with | some f => (f : Int) | none => -1
def rV (g : Rg) (F : Fs) (t i : Nat) : Int := match F i with | some f => if f + g.hop i < t then ((f + g.hop i : Nat) : Int) else -1 | none => -1
open Classical in
noncomputable def sV (g : Rg) (F : Fs) (t k : Nat) : Int := if h : ∃ i, g.Hold F t i k then ((h.choose : Nat) : Int) + 1 else 0

theorem sV_hold (o : g.Ok) {t i k : Nat} (hk : k < g.n) (h : g.Hold (g.fl t) t i k) : g.sV (g.fl t) t k = (i : Int) + 1 := by
  have hex : ∃ i, g.Hold (g.fl t) t i k := ⟨i, h⟩
  unfold sV
  rw [dif_pos hex, uniq o t hk hex.choose_spec h]
theorem sV_none {F : Fs} {t k : Nat} (h : ∀ i, ¬ g.Hold F t i k) : g.sV F t k = 0 := by
  unfold sV
  rw [dif_neg fun ⟨i, hi⟩ => h i hi]

noncomputable def slL (g : Rg) (t : Nat) : List Int := (List.range g.n).map (g.sV (g.fl t) t)
noncomputable def flL (g : Rg) (t : Nat) : List Int := (List.range g.L).map (fV (g.fl t))
noncomputable def rdL (g : Rg) (t : Nat) : List Int := (List.range g.L).map (g.rV (g.fl t) t)

/-- Behind the slots P of a tick. -/
noncomputable def mS (g : Rg) (t : Nat) (P : Nat → Bool) : List Int := (List.range g.n).map fun k => if P k then g.sV (g.fl (t + 1)) (t + 1) k else g.sV (g.fl t) t k
noncomputable def mF (g : Rg) (t : Nat) (P : Nat → Bool) : List Int := (List.range g.L).map fun i => if P (g.pos (g.fr i) t) then fV (g.fl (t + 1)) i else fV (g.fl t) i
noncomputable def mRv (g : Rg) (t : Nat) (P : Nat → Bool) (i : Nat) : Int := match g.fl t i with
  | some f => if P (g.pos (g.fr i) f) then g.rV (g.fl (t + 1)) (t + 1) i else g.rV (g.fl t) t i
  | none => -1
noncomputable def mR (g : Rg) (t : Nat) (P : Nat → Bool) : List Int := (List.range g.L).map (g.mRv t P)

theorem mapr_len {n : Nat} {f : Nat → Int} : ((List.range n).map f).length = n := by simp
theorem mapr_get {n : Nat} {f : Nat → Int} {i : Nat} (h : i < n) : ((List.range n).map f)[i]? = some (f i) := by simp [h]
theorem mapr_eq {n : Nat} {f f' : Nat → Int} (h : ∀ i, i < n → f i = f' i) : (List.range n).map f = (List.range n).map f' := List.map_congr_left fun i hi => h i (List.mem_range.1 hi)
theorem mapr_set {n k : Nat} {f f' : Nat → Int} {v : Int} (h1 : k < n → f' k = v) (h2 : ∀ i, i < n → i ≠ k → f' i = f i) : (List.range n).map f' = ((List.range n).map f).set k v := by
  apply List.ext_getElem?
  intro i
  rw [List.getElem?_set]
  by_cases hi : i < n
  · rw [mapr_get hi]
    by_cases hk : k = i
    · subst hk
      rw [if_pos rfl, if_pos (by rw [mapr_len]; exact hi), h1 hi]
    · rw [if_neg hk, mapr_get hi, h2 i hi (fun e => hk e.symm)]
  · rw [List.getElem?_eq_none (by rw [mapr_len]; omega)]
    split
    · rw [if_neg (by rw [mapr_len]; omega)]
    · rw [List.getElem?_eq_none (by rw [mapr_len]; omega)]

theorem mid_begin (t : Nat) : g.mS t (fun _ => false) = g.slL t ∧ g.mF t (fun _ => false) = g.flL t ∧ g.mR t (fun _ => false) = g.rdL t := by
  refine ⟨mapr_eq fun i _ => by simp, mapr_eq fun i _ => by simp, mapr_eq fun i _ => ?_⟩
  unfold mRv rV
  split <;> simp_all
theorem mid_end (o : g.Ok) (t : Nat) {P : Nat → Bool} (hP : ∀ k, k < g.n → P k = true) : g.mS t P = g.slL (t + 1) ∧ g.mF t P = g.flL (t + 1) ∧ g.mR t P = g.rdL (t + 1) := by
  refine ⟨mapr_eq fun i hi => by simp [hP i hi], mapr_eq fun i _ => by simp [hP _ (pos_lt o _ _)], mapr_eq fun i hi => ?_⟩
  unfold mRv
  split
  · rw [if_pos (hP _ (pos_lt o _ _))]
  · rename_i h
    unfold rV
    split
    · rename_i f h2
      rcases nxt_some h2 with h3 | ⟨_, rfl, _, _⟩
      · rw [h] at h3; cases h3
      · have := hop_range o hi
        rw [if_neg (by omega)]
    · rfl

def add (P : Nat → Bool) (k : Nat) : Nat → Bool := fun x => P x || x == k
theorem add_self (P : Nat → Bool) (k : Nat) : add P k k = true := by simp [add]
theorem add_ne {P : Nat → Bool} {k x : Nat} (h : x ≠ k) : add P k x = P x := by simp [add, h]

/-! #### what a slot does -/
section
variable {t k : Nat} {P : Nat → Bool}

theorem free_bl (o : g.Ok) (h : ∀ i, ¬ g.Hold (g.fl t) t i k) : ¬ g.Bl (g.fl t) k t := by
  rintro ⟨i, f, hi, hf, h1, h2⟩
  refine h i ⟨hi, f, hf, ?_, h1⟩
  unfold stay at h2
  unfold life
  split at h2 <;> split <;> first | omega | contradiction
theorem keep_bl (o : g.Ok) {i f : Nat} (hi : i < g.L) (hf : g.fl t i = some f) (h1 : (k + f) % g.n = g.fr i) (h2 : t < f + g.life i) : g.Bl (g.fl t) k t :=
  ⟨i, f, hi, hf, h1, by have := life_range o hi; omega⟩
theorem home_bl {i f : Nat} (hh : g.home = true) (hi : i < g.L) (hf : g.fl t i = some f) (h1 : (k + f) % g.n = g.fr i) (h2 : t ≤ f + g.n) : g.Bl (g.fl t) k t :=
  ⟨i, f, hi, hf, h1, by unfold stay; rw [if_pos hh]; omega⟩
theorem gone_bl (o : g.Ok) (hk : k < g.n) {i f : Nat} (hh : g.home = false) (hi : i < g.L) (hf : g.fl t i = some f) (h1 : (k + f) % g.n = g.fr i) (h2 : t = f + g.hop i) : ¬ g.Bl (g.fl t) k t := by
  rintro ⟨j, f', hj, hf', h3, h4⟩
  have e1 : g.life i = g.hop i := by unfold life; rw [if_neg (by simp [hh])]
  have e2 : g.life j = g.hop j := by unfold life; rw [if_neg (by simp [hh])]
  have e3 : g.stay j = g.hop j := by unfold stay; rw [if_neg (by simp [hh])]
  obtain rfl := uniq o t hk ⟨hi, f, hf, by omega, h1⟩ ⟨hj, f', hf', by omega, h3⟩
  rw [hf] at hf'
  obtain rfl := by simpa using hf'
  omega

/-- Those of other stations are as they were; those of this one, too, unless one is filled. -/
theorem same_F (o : g.Ok) (hk : k < g.n) (h : g.Bl (g.fl t) k t ∨ ∀ i, ¬ g.Wt (g.fl t) ((k + t) % g.n) t i) {j : Nat} (hj : g.fr j = (k + t) % g.n) : g.fl (t + 1) j = g.fl t j := by
  show g.nxt (g.fl t) t j = _
  cases hF : g.fl t j with
  | some f => exact nxt_old hF
  | none =>
    refine nxt_not hF ?_
    rintro ⟨h1, h2⟩
    rw [hj, pos_inv o hk] at h2
    rcases h with h | h
    · exact h2 h
    · exact h j (hj ▸ h1.1)
theorem new_F (o : g.Ok) (hk : k < g.n) (hb : ¬ g.Bl (g.fl t) k t) {i : Nat} (hn : g.Nx (g.fl t) t i) (hi : g.fr i = (k + t) % g.n) {j : Nat} (hj : g.fr j = (k + t) % g.n) : g.fl (t + 1) j = if j = i then some t else g.fl t j := by
  show g.nxt (g.fl t) t j = _
  by_cases e : j = i
  · subst e
    rw [if_pos rfl]
    exact nxt_new hn.1.2.2.2 hn (by rw [hi, pos_inv o hk]; exact hb)
  · rw [if_neg e]
    cases hF : g.fl t j with
    | some f => exact nxt_old hF
    | none => exact nxt_not hF fun ⟨h1, _⟩ => e (h1.uniq hn (hj.trans hi.symm))

theorem pos_k (o : g.Ok) (hk : k < g.n) {j f : Nat} (hj : j < g.L) : g.pos (g.fr j) f = k ↔ (k + f) % g.n = g.fr j := by
  constructor
  · rintro rfl; exact pos_at o (o.fr j hj)
  · intro h; rw [← h]; exact pos_inv o hk

theorem mF_keep (o : g.Ok) (hk : k < g.n) (h : g.Bl (g.fl t) k t ∨ ∀ i, ¬ g.Wt (g.fl t) ((k + t) % g.n) t i) : g.mF t (add P k) = g.mF t P := by
  refine mapr_eq fun j hj => ?_
  by_cases e : g.pos (g.fr j) t = k
  · have e2 := ((pos_k o hk hj).1 e).symm
    rw [e, add_self]
    have := same_F o hk h e2
    simp only [fV, this]
    simp
  · rw [add_ne e]
theorem mF_set (o : g.Ok) (hk : k < g.n) (hP : P k = false) (hb : ¬ g.Bl (g.fl t) k t) {i : Nat} (hn : g.Nx (g.fl t) t i) (hi : g.fr i = (k + t) % g.n) : g.mF t (add P k) = (g.mF t P).set i (t : Int) := by
  refine mapr_set ?_ ?_
  · intro hil
    have e : g.pos (g.fr i) t = k := (pos_k o hk hil).2 hi.symm
    have := new_F o hk hb hn hi hi
    rw [if_pos rfl] at this
    rw [e, add_self]
    simp [fV, this]
  · intro j hj hji
    by_cases e : g.pos (g.fr j) t = k
    · have e2 := ((pos_k o hk hj).1 e).symm
      have := new_F o hk hb hn hi e2
      rw [if_neg hji] at this
      rw [e, add_self, hP]
      simp [fV, this]
    · rw [add_ne e]

theorem mS_set {v : Int} (hv : g.sV (g.fl (t + 1)) (t + 1) k = v) : g.mS t (add P k) = (g.mS t P).set k v := by
  refine mapr_set ?_ ?_
  · intro _; rw [add_self, if_pos rfl, hv]
  · intro j hj hjk; rw [add_ne hjk]

theorem hold_next (o : g.Ok) {j : Nat} (hk : k < g.n) (h : g.Hold (g.fl (t + 1)) (t + 1) j k) : (∃ f, j < g.L ∧ g.fl t j = some f ∧ t < f + g.life j ∧ (k + f) % g.n = g.fr j) ∨ (g.fl t j = none ∧ g.fl (t + 1) j = some t ∧ g.fr j = (k + t) % g.n ∧ g.Nx (g.fl t) t j ∧ ¬ g.Bl (g.fl t) k t) := by
  obtain ⟨hj, f, hf, h1, h2⟩ := h
  rcases nxt_some hf with h | ⟨h, rfl, h3, h4⟩
  · exact .inl ⟨f, hj, h, by omega, h2⟩
  · refine .inr ⟨h, hf, h2.symm, h3, ?_⟩
    rwa [← h2, pos_inv o hk] at h4

theorem sV_keep (o : g.Ok) (hk : k < g.n) {i f : Nat} (hi : i < g.L) (hf : g.fl t i = some f) (h1 : (k + f) % g.n = g.fr i) (h2 : t < f + g.life i) : g.sV (g.fl (t + 1)) (t + 1) k = (i : Int) + 1 :=
  sV_hold o hk ⟨hi, f, nxt_old hf, by omega, h1⟩
theorem sV_zero (o : g.Ok) (hk : k < g.n) (h : ∀ j f, j < g.L → g.fl t j = some f → (k + f) % g.n = g.fr j → f + g.life j ≤ t) (hw : g.Bl (g.fl t) k t ∨ ∀ i, ¬ g.Wt (g.fl t) ((k + t) % g.n) t i) : g.sV (g.fl (t + 1)) (t + 1) k = 0 := by
  refine sV_none fun j hj => ?_
  rcases hold_next o hk hj with ⟨f, h1, h2, h3, h4⟩ | ⟨h1, h2, h3, h4, h5⟩
  · have := h j f h1 h2 h4; omega
  · rcases hw with hw | hw
    · exact h5 hw
    · exact hw j (h3 ▸ h4.1)
theorem sV_new (o : g.Ok) (hk : k < g.n) (hb : ¬ g.Bl (g.fl t) k t) {i : Nat} (hn : g.Nx (g.fl t) t i) (hi : g.fr i = (k + t) % g.n) : g.sV (g.fl (t + 1)) (t + 1) k = (i : Int) + 1 := by
  refine sV_hold o hk ⟨hn.1.1, t, ?_, by have := life_range o hn.1.1; omega, hi.symm⟩
  have := new_F o hk hb hn hi hi
  rwa [if_pos rfl] at this

theorem rV_next {j f : Nat} (hf : g.fl t j = some f) : g.rV (g.fl (t + 1)) (t + 1) j = if f + g.hop j < t + 1 then ((f + g.hop j : Nat) : Int) else -1 := by
  have : g.fl (t + 1) j = some f := nxt_old hf
  simp only [rV, this]
theorem rV_now {j f : Nat} (hf : g.fl t j = some f) : g.rV (g.fl t) t j = if f + g.hop j < t then ((f + g.hop j : Nat) : Int) else -1 := by
  simp only [rV, hf]

theorem mR_keep (o : g.Ok) (hk : k < g.n) (h : ∀ j f, j < g.L → g.fl t j = some f → (k + f) % g.n = g.fr j → t ≠ f + g.hop j) : g.mR t (add P k) = g.mR t P := by
  refine mapr_eq fun j hj => ?_
  unfold mRv
  cases hF : g.fl t j with
  | none => rfl
  | some f =>
    dsimp only
    by_cases e : g.pos (g.fr j) f = k
    · have := h j f hj hF ((pos_k o hk hj).1 e)
      have e2 : (f + g.hop j < t + 1) ↔ (f + g.hop j < t) := by omega
      rw [e, add_self, if_pos rfl, rV_next hF, rV_now hF]
      simp only [e2, ite_self]
    · rw [add_ne e]
theorem mR_set (o : g.Ok) (hk : k < g.n) (hP : P k = false) {i f : Nat} (hi : i < g.L) (hf : g.fl t i = some f) (h1 : (k + f) % g.n = g.fr i) (h2 : t = f + g.hop i) : g.mR t (add P k) = (g.mR t P).set i (t : Int) := by
  refine mapr_set ?_ ?_
  · intro _
    unfold mRv
    rw [hf]
    dsimp only
    rw [(pos_k o hk hi).2 h1, add_self, if_pos rfl, rV_next hf, if_pos (by omega), ← h2]
  · intro j hj hji
    unfold mRv
    cases hF : g.fl t j with
    | none => rfl
    | some f' =>
      dsimp only
      by_cases e : g.pos (g.fr j) f' = k
      · have e2 := (pos_k o hk hj).1 e
        have hne : t ≠ f' + g.hop j := by
          intro e3
          have := life_range o hj
          have := life_range o hi
          exact hji (uniq o t hk ⟨hj, f', hF, by omega, e2⟩ ⟨hi, f, hf, by omega, h1⟩)
        rw [e, add_self, if_pos rfl, hP, if_neg (by simp), rV_next hF, rV_now hF]
        split <;> split <;> first | rfl | omega
      · rw [add_ne e]

/-- What is read in the lists. -/
theorem mS_at (hk : k < g.n) (hP : P k = false) : (g.mS t P)[k]? = some (g.sV (g.fl t) t k) := by
  unfold mS; rw [mapr_get hk, hP]; simp
theorem mF_at (o : g.Ok) (hk : k < g.n) (hP : P k = false) {j : Nat} (hj : j < g.L) (e : g.fr j = (k + t) % g.n) : (g.mF t P)[j]? = some (fV (g.fl t) j) := by
  unfold mF; rw [mapr_get hj, (pos_k o hk hj).2 e.symm, hP]; simp
theorem mR_at (o : g.Ok) (hk : k < g.n) (hP : P k = false) {j f : Nat} (hj : j < g.L) (hf : g.fl t j = some f) (e : (k + f) % g.n = g.fr j) : (g.mR t P)[j]? = some (if f + g.hop j < t then ((f + g.hop j : Nat) : Int) else -1) := by
  unfold mR; rw [mapr_get hj]; unfold mRv; rw [hf]; dsimp only; rw [(pos_k o hk hj).2 e, hP, rV_now hf]; simp
theorem mS_len : (g.mS t P).length = g.n := mapr_len
theorem mF_len : (g.mF t P).length = g.L := mapr_len
theorem mR_len : (g.mR t P).length = g.L := mapr_len
theorem fV_neg (o : g.Ok) {j : Nat} : fV (g.fl t) j < 0 ↔ g.fl t j = none := by
  unfold fV
  cases g.fl t j <;> simp
end
end Rg
end Go.Proofs.Yteeejellpcikkaa.Ev.G5
