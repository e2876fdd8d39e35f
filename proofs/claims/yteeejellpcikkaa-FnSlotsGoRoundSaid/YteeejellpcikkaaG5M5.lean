/- Slot rings: a tick of the first program; no condition but that it is a ring with messages. -/
import Derived.Test.YteeejellpcikkaaG5M4
set_option linter.unusedVariables false
set_option linter.unusedSimpArgs false
namespace Go.Proofs.Yteeejellpcikkaa.Ev.G5
open Go
set_option linter.unusedSimpArgs false
set_option linter.unusedVariables false
namespace Rg
variable {g : Rg}

/-- The messages as the programs have them. -/
structure Fits (g : Rg) (ms : List Msg) : Prop where
  len : ms.length = g.L
  get : ∀ i, i < g.L → ms[i]? = some ((g.tk i : Int), (g.fr i : Int), (g.to i : Int))

theorem fill_ok (o : g.Ok) {t k : Nat} {P : Nat → Bool} (hk : k < g.n) (hP : P k = false) (hb : ¬ g.Bl (g.fl t) k t) (hz : ∀ j f, j < g.L → g.fl t j = some f → (k + f) % g.n = g.fr j → f + g.life j ≤ t) :
    (∃ i, g.Nx (g.fl t) t i ∧ g.fr i = (k + t) % g.n ∧ g.mS t (add P k) = (g.mS t P).set k ((i : Int) + 1) ∧ g.mF t (add P k) = (g.mF t P).set i (t : Int)) ∨
    ((∀ i, ¬ g.Wt (g.fl t) ((k + t) % g.n) t i) ∧ g.mS t (add P k) = (g.mS t P).set k 0 ∧ g.mF t (add P k) = g.mF t P) := by
  by_cases h : ∃ i, g.Wt (g.fl t) ((k + t) % g.n) t i
  · left
    have hmin : ∃ i, g.Wt (g.fl t) ((k + t) % g.n) t i ∧ ∀ j, j < i → ¬ g.Wt (g.fl t) ((k + t) % g.n) t j := by
      obtain ⟨i, hi⟩ := h
      induction i using Nat.strongRecOn with
      | _ i ih =>
        by_cases hj : ∃ j, j < i ∧ g.Wt (g.fl t) ((k + t) % g.n) t j
        · obtain ⟨j, h1, h2⟩ := hj; exact ih j h1 h2
        · exact ⟨i, hi, fun j h1 h2 => hj ⟨j, h1, h2⟩⟩
    obtain ⟨i, h1, h2⟩ := hmin
    have hfr := h1.2.1
    have hn : g.Nx (g.fl t) t i := ⟨by rw [hfr]; exact h1, by rw [hfr]; exact h2⟩
    exact ⟨i, hn, hfr, mS_set (sV_new o hk hb hn hfr), mF_set o hk hP hb hn hfr⟩
  · right
    have hw : ∀ i, ¬ g.Wt (g.fl t) ((k + t) % g.n) t i := fun i hi => h ⟨i, hi⟩
    exact ⟨hw, mS_set (sV_zero o hk hz (.inr hw)), mF_keep o hk (.inr hw)⟩

theorem tmod_nat (a b : Nat) : Int.tmod (a : Int) (b : Int) = ((a % b : Nat) : Int) := rfl

variable {t k : Nat} {P : Nat → Bool} {ms : List Msg}

theorem idx_ok (o : g.Ok) (ht : t ≤ 1000000) (hk : k < g.n) : Int.tmod (w64 ((w64 ((((k + t) % g.n : Nat) : Int) - (Int.tmod (t : Int) (g.n : Int)))) + (g.n : Int))) (g.n : Int) = (k : Int) := by
  have h1 := o.n12
  have hn := o.n2
  have hr : t % g.n < g.n := Nat.mod_lt _ (by omega)
  have ha : (k + t) % g.n < g.n := Nat.mod_lt _ (by omega)
  rw [tmod_nat, w64_id (x := (((k + t) % g.n : Nat) : Int) - ((t % g.n : Nat) : Int)) (by omega) (by omega), w64_id (by omega) (by omega)]
  have e : (((k + t) % g.n : Nat) : Int) - ((t % g.n : Nat) : Int) + (g.n : Int) = (((k + t) % g.n + g.n - t % g.n : Nat) : Int) := by omega
  rw [e, tmod_nat]
  have := pos_inv o (t := t) hk
  unfold pos at this
  rw [this]

theorem impl_search (o : g.Ok) (hm : Fits g ms) (ht : t ≤ 1000000) (hk : k < g.n) (hP : P k = false) (S0 R0 S R : List Int) :
    (∀ i, g.Nx (g.fl t) t i → g.fr i = (k + t) % g.n → impl_slotter_station_l2 (((k + t) % g.n : Nat) : Int) ((g.n : Int), g.home, ms, (t : Int), S0, g.mF t P, R0) S R 0 = some (.inr ((g.n : Int), g.home, ms, (t : Int), S.set k ((i : Int) + 1), (g.mF t P).set i (t : Int), R))) ∧
    ((∀ i, ¬ g.Wt (g.fl t) ((k + t) % g.n) t i) → impl_slotter_station_l2 (((k + t) % g.n : Nat) : Int) ((g.n : Int), g.home, ms, (t : Int), S0, g.mF t P, R0) S R 0 = some (.inl ())) := by
  have hL := o.L20
  have hk2 : Int.toNat (Int.tmod (w64 ((w64 ((((k + t) % g.n : Nat) : Int) - (Int.tmod (t : Int) (g.n : Int)))) + (g.n : Int))) (g.n : Int)) = k := by rw [idx_ok o ht hk]; rfl
  have step : ∀ i, i < g.L → impl_slotter_station_s2 (((k + t) % g.n : Nat) : Int) ((g.n : Int), g.home, ms, (t : Int), S0, g.mF t P, R0) S R (i : Int) = if g.fr i = (k + t) % g.n ∧ g.tk i ≤ t ∧ g.fl t i = none then some (.inr (.inr ((g.n : Int), g.home, ms, (t : Int), S.set k ((i : Int) + 1), (g.mF t P).set i (t : Int), R))) else some (.inl ((i + 1 : Nat) : Int)) := by
    intro i hi
    have hw := w64_nat1 (show i ≤ 4611686018427387904 by omega)
    have hw' : w64 ((i : Int) + 1) = (i : Int) + 1 := by rw [hw]; omega
    have j3f : ∀ c0, impl_slotter_station_j3 (((k + t) % g.n : Nat) : Int) c0 S R (i : Int) false = some (.inl ((i + 1 : Nat) : Int)) := by intro c0; simp [impl_slotter_station_j3, hw]
    unfold impl_slotter_station_s2
    dsimp only
    rw [if_pos (by rw [hm.len]; simpa using hi), at_eq, hm.get i hi, Option.bind_some]
    dsimp only
    by_cases h1 : g.fr i = (k + t) % g.n
    · rw [if_pos (by rw [h1]; simp)]
      by_cases h2 : g.tk i ≤ t
      · have hF := mF_at o hk hP hi h1
        rw [if_pos (by simpa using h2), at_eq, hF, Option.bind_some]
        by_cases h3 : g.fl t i = none
        · rw [if_pos ⟨h1, h2, h3⟩, show decide (fV (g.fl t) i < 0) = true from decide_eq_true ((fV_neg o).2 h3)]
          unfold impl_slotter_station_j3
          dsimp only
          rw [if_pos rfl, at_eq, hF, Option.bind_some, hk2, hw']
          rfl
        · rw [if_neg (fun h => h3 h.2.2), show decide (fV (g.fl t) i < 0) = false from decide_eq_false (fun h => h3 ((fV_neg o).1 h)), j3f]
      · rw [if_neg (by simpa using h2), j3f, if_neg (fun h => h2 h.2.1)]
    · rw [if_neg (by simp only [beq_iff_eq]; omega), j3f, if_neg (fun h => h1 h.1)]
  have h := iter_find (step := impl_slotter_station_s2 (((k + t) % g.n : Nat) : Int) ((g.n : Int), g.home, ms, (t : Int), S0, g.mF t P, R0) S R) (List.range g.L) (fun i => (i : Int)) (fun _ i => decide (g.fr i = (k + t) % g.n ∧ g.tk i ≤ t ∧ g.fl t i = none))
    (fun i => .inr ((g.n : Int), g.home, ms, (t : Int), S.set k ((i : Int) + 1), (g.mF t P).set i (t : Int), R)) (.inl ())
    (fun i x hi hx hp => by rw [List.length_range] at hi; rw [step i hi, if_neg (of_decide_eq_false hp)])
    (fun i x hi hx hp => by rw [List.length_range] at hi; rw [step i hi, if_pos (of_decide_eq_true hp)])
    (by unfold impl_slotter_station_s2; dsimp only; rw [if_neg (by rw [hm.len, List.length_range]; simp)])
  unfold impl_slotter_station_l2
  constructor
  · intro i hn hi
    have hw := hn.1
    rcases h with ⟨j, x, h1, h2, h3, h4, h5⟩ | ⟨h1, h2⟩
    · rw [List.length_range] at h1
      have h3 := of_decide_eq_true h3
      have hj : g.Wt (g.fl t) (g.fr i) t j := ⟨h1, h3.1.trans hi.symm, h3.2⟩
      have hij : j = i := by
        rcases Nat.lt_trichotomy j i with hl | hl | hl
        · exact absurd hj (hn.2 j hl)
        · exact hl
        · have := of_decide_eq_false (h4 i i hl (by rw [List.getElem?_range hw.1]))
          exact absurd ⟨hi, hw.2.2⟩ this
      subst hij
      exact h5
    · have := of_decide_eq_false (h1 i i (by rw [List.getElem?_range hw.1]))
      exact absurd ⟨hi, hw.2.2⟩ this
  · intro hno
    rcases h with ⟨j, x, h1, h2, h3, h4, h5⟩ | ⟨h1, h2⟩
    · rw [List.length_range] at h1
      have h3 := of_decide_eq_true h3
      exact absurd ⟨h1, h3⟩ (hno j)
    · exact h2

theorem impl_j1 (o : g.Ok) (hm : Fits g ms) (ht : t ≤ 1000000) (hk : k < g.n) (hP : P k = false) (S0 R0 S R : List Int) (v : Int) (hS : S[k]? = some v) :
    (v > 0 → impl_slotter_station_j1 (((k + t) % g.n : Nat) : Int) ((g.n : Int), g.home, ms, (t : Int), S0, g.mF t P, R0) (S, R) = some ((g.n : Int), g.home, ms, (t : Int), S, g.mF t P, R)) ∧
    (¬ v > 0 → (∀ i, g.Nx (g.fl t) t i → g.fr i = (k + t) % g.n → impl_slotter_station_j1 (((k + t) % g.n : Nat) : Int) ((g.n : Int), g.home, ms, (t : Int), S0, g.mF t P, R0) (S, R) = some ((g.n : Int), g.home, ms, (t : Int), S.set k ((i : Int) + 1), (g.mF t P).set i (t : Int), R)) ∧
      ((∀ i, ¬ g.Wt (g.fl t) ((k + t) % g.n) t i) → impl_slotter_station_j1 (((k + t) % g.n : Nat) : Int) ((g.n : Int), g.home, ms, (t : Int), S0, g.mF t P, R0) (S, R) = some ((g.n : Int), g.home, ms, (t : Int), S, g.mF t P, R))) := by
  obtain ⟨s1, s2⟩ := impl_search o hm ht hk hP S0 R0 S R
  unfold impl_slotter_station_j1
  dsimp only
  rw [idx_ok o ht hk, at_eq, hS, Option.bind_some]
  constructor
  · intro h; rw [if_pos (by simpa using h)]
  · intro h
    rw [if_neg (by simpa using h)]
    constructor
    · intro i h1 h2; rw [s1 i h1 h2]; rfl
    · intro h1; rw [s2 h1]; rfl

theorem set_same {xs : List Int} {k : Nat} {v : Int} (h : xs[k]? = some v) : xs.set k v = xs := by
  apply List.ext_getElem?
  intro i
  rw [List.getElem?_set]
  split
  · subst_vars
    obtain ⟨h1, h2⟩ := List.getElem?_eq_some_iff.1 h
    rw [if_pos h1, h]
  · rfl

/-- One station of the first program. -/
theorem impl_station_ok (o : g.Ok) (hm : Fits g ms) (ht : t ≤ 1000000) (hk : k < g.n) (hP : P k = false) :
    impl_slotter_station (((k + t) % g.n : Nat) : Int) ((g.n : Int), g.home, ms, (t : Int), g.mS t P, g.mF t P, g.mR t P) = some ((g.n : Int), g.home, ms, (t : Int), g.mS t (add P k), g.mF t (add P k), g.mR t (add P k)) := by
  have hn := o.n2
  have hL := o.L20
  have hSk := mS_at (g := g) (t := t) hk hP
  unfold impl_slotter_station
  dsimp only
  rw [nz_ok (by omega), Option.bind_some, idx_ok o ht hk, at_eq, hSk, Option.bind_some]
  by_cases hh : ∃ i, g.Hold (g.fl t) t i k
  · obtain ⟨i, hi⟩ := hh
    have hv := sV_hold o hk hi
    obtain ⟨hil, f, hf, h1, h2⟩ := hi
    have hft := (fl_lt t hf).1
    have hlr := life_range o hil
    have hhr := hop_range o hil
    have hat := at_to o hil h2 hft (by omega)
    rw [hv] at hSk ⊢
    have e1 : w64 ((i : Int) + 1 - 1) = (i : Int) := by rw [w64_id (by omega) (by omega)]; omega
    rw [e1, if_pos (by simp), at_eq, hm.get i hil, Option.bind_some]
    dsimp only
    have hRk := mR_at o hk hP hil hf h2
    -- what is read by others is not turned
    have hothers : ∀ j f', j < g.L → g.fl t j = some f' → (k + f') % g.n = g.fr j → t ≤ f' + g.life j → j = i := fun j f' q1 q2 q3 q4 => uniq o t hk ⟨q1, f', q2, q4, q3⟩ ⟨hil, f, hf, h1, h2⟩
    have hz : t = f + g.life i → ∀ j f', j < g.L → g.fl t j = some f' → (k + f') % g.n = g.fr j → f' + g.life j ≤ t := by
      intro hd j f' q1 q2 q3
      rcases Nat.lt_or_ge t (f' + g.life j) with q4 | q4
      · obtain rfl := hothers j f' q1 q2 q3 (by omega)
        rw [hf] at q2
        obtain rfl := by simpa using q2
        omega
      · exact q4
    by_cases c1 : t = f + g.hop i
    · -- it is read now
      have cTo := hat.1.2 c1
      rw [if_pos (by rw [cTo]; simp), at_eq, hRk, Option.bind_some, if_neg (by omega)]
      have hmR := mR_set o hk hP hil hf h2 c1
      unfold impl_slotter_station_j6
      dsimp only
      rw [if_pos (by simp), e1, at_eq, hRk, Option.bind_some]
      cases hhome : g.home with
      | false =>
        rw [if_pos (show (!false) = true from rfl)]
        have hlife : g.life i = g.hop i := by unfold life; rw [if_neg (by simp [hhome])]
        have hb := gone_bl o hk hhome hil hf h2 c1
        have hS' : ((g.mS t P).set k 0)[k]? = some 0 := by rw [List.getElem?_set, if_pos rfl, if_pos (by rw [mS_len]; exact hk)]
        obtain ⟨_, q⟩ := impl_j1 o hm ht hk hP (g.mS t P) (g.mR t P) ((g.mS t P).set k 0) ((g.mR t P).set i (t : Int)) 0 hS'
        obtain ⟨q1, q2⟩ := q (by omega)
        rw [hhome] at q1 q2
        have ek : Int.toNat (k : Int) = k := rfl
        have ei : Int.toNat (i : Int) = i := rfl
        unfold impl_slotter_station_j4 impl_slotter_station_j5
        dsimp only
        rw [if_neg (by simp), if_neg (by simp), idx_ok o ht hk, ek, ei]
        rcases fill_ok o hk hP hb (hz (by omega)) with ⟨i0, r1, r2, r3, r4⟩ | ⟨r1, r3, r4⟩
        · rw [q1 i0 r1 r2, r3, r4, hmR, List.set_set]
        · rw [q2 r1, r3, r4, hmR]
      | true =>
        rw [if_neg (by simp)]
        have hlife : g.life i = g.n := by unfold life; rw [if_pos hhome]
        have hb : g.Bl (g.fl t) k t := home_bl hhome hil hf h2 (by omega)
        obtain ⟨q, _⟩ := impl_j1 o hm ht hk hP (g.mS t P) (g.mR t P) (g.mS t P) ((g.mR t P).set i (t : Int)) _ hSk
        have ei : Int.toNat (i : Int) = i := rfl
        unfold impl_slotter_station_j4 impl_slotter_station_j5
        dsimp only
        rw [if_pos rfl, if_neg (by
          have : ¬ (k + t) % g.n = g.fr i := fun h => by have := hat.2.1 h; omega
          simp only [beq_iff_eq]; omega), if_neg (by simp), ei]
        have q := q (by omega)
        rw [hhome] at q
        rw [q, mS_set (sV_keep o hk hil hf h2 (by omega)), set_same hSk, mF_keep o hk (.inl hb), hmR]
    · have cTo : ¬ (k + t) % g.n = g.to i := fun h => c1 (hat.1.1 h)
      rw [if_neg (by simp only [beq_iff_eq]; omega)]
      have hmR : g.mR t (add P k) = g.mR t P := mR_keep o hk fun j f' q1 q2 q3 q4 => by
        have := life_range o q1
        obtain rfl := hothers j f' q1 q2 q3 (by omega)
        rw [hf] at q2
        obtain rfl := by simpa using q2
        exact c1 q4
      unfold impl_slotter_station_j6
      dsimp only
      rw [if_neg (by simp)]
      have keep : t < f + g.life i → impl_slotter_station_j1 (((k + t) % g.n : Nat) : Int) ((g.n : Int), g.home, ms, (t : Int), g.mS t P, g.mF t P, g.mR t P) (g.mS t P, g.mR t P) = some ((g.n : Int), g.home, ms, (t : Int), g.mS t (add P k), g.mF t (add P k), g.mR t (add P k)) := by
        intro hd
        obtain ⟨q, _⟩ := impl_j1 o hm ht hk hP (g.mS t P) (g.mR t P) (g.mS t P) (g.mR t P) _ hSk
        rw [q (by omega), mS_set (sV_keep o hk hil hf h2 hd), set_same hSk, mF_keep o hk (.inl (keep_bl o hil hf h2 hd)), hmR]
      unfold impl_slotter_station_j4
      dsimp only
      cases hhome : g.home with
      | false =>
        have hlife : g.life i = g.hop i := by unfold life; rw [if_neg (by simp [hhome])]
        rw [hhome] at keep
        unfold impl_slotter_station_j5
        dsimp only
        rw [if_neg (by simp), if_neg (by simp)]
        exact keep (by omega)
      | true =>
        have hlife : g.life i = g.n := by unfold life; rw [if_pos hhome]
        rw [hhome] at keep
        rw [if_pos rfl]
        by_cases c2 : t = f + g.n
        · have cFr := hat.2.2 c2
          have hb : g.Bl (g.fl t) k t := home_bl hhome hil hf h2 (by omega)
          rw [if_pos (by rw [cFr]; simp), e1, at_eq, hRk, Option.bind_some, if_pos (by omega), show decide (((f + g.hop i : Nat) : Int) ≥ 0) = true by simp; omega]
          unfold impl_slotter_station_j5
          dsimp only
          rw [if_pos rfl, idx_ok o ht hk, at_eq, hSk, Option.bind_some]
          rw [mS_set (sV_zero o hk (hz (by omega)) (.inl hb)), mF_keep o hk (.inl hb), hmR]
          rfl
        · have cFr : ¬ (k + t) % g.n = g.fr i := fun h => c2 (hat.2.1 h)
          unfold impl_slotter_station_j5
          dsimp only
          rw [if_neg (by simp only [beq_iff_eq]; omega), if_neg (by simp)]
          exact keep (by omega)
  · have hno : ∀ i, ¬ g.Hold (g.fl t) t i k := fun i hi => hh ⟨i, hi⟩
    have hv : g.sV (g.fl t) t k = 0 := sV_none hno
    rw [hv] at hSk ⊢
    have e1 : w64 (0 - 1) = -1 := by rw [w64_id (by omega) (by omega)]; omega
    have hz : ∀ j f', j < g.L → g.fl t j = some f' → (k + f') % g.n = g.fr j → f' + g.life j < t := by
      intro j f' q1 q2 q3
      rcases Nat.lt_or_ge (f' + g.life j) t with q4 | q4
      · exact q4
      · exact absurd ⟨q1, f', q2, q4, q3⟩ (hno j)
    have hmR : g.mR t (add P k) = g.mR t P := mR_keep o hk fun j f' q1 q2 q3 q4 => by
      have := life_range o q1
      have := hz j f' q1 q2 q3
      omega
    rw [e1, if_neg (by simp)]
    obtain ⟨_, q⟩ := impl_j1 o hm ht hk hP (g.mS t P) (g.mR t P) (g.mS t P) (g.mR t P) 0 hSk
    obtain ⟨q1, q2⟩ := q (by omega)
    rcases fill_ok o hk hP (free_bl o hno) (fun j f' a b c => Nat.le_of_lt (hz j f' a b c)) with ⟨i0, r1, r2, r3, r4⟩ | ⟨r1, r3, r4⟩
    · rw [q1 i0 r1 r2, r3, r4, hmR]
    · rw [q2 r1, r3, r4, hmR, set_same hSk]
end Rg
end Go.Proofs.Yteeejellpcikkaa.Ev.G5
