/- Slot rings: a tick of the second program; no condition but that it is a ring with messages. -/
import Derived.Test.YteeejellpcikkaaG5M6
set_option linter.unusedVariables false
set_option linter.unusedSimpArgs false
namespace Go.Proofs.Yteeejellpcikkaa.Ev.G5
open Go
set_option linter.unusedSimpArgs false
set_option linter.unusedVariables false
namespace Rg
variable {g : Rg} {t k : Nat} {P : Nat → Bool} {ms : List Msg}

theorem spec_search (o : g.Ok) (hm : Fits g ms) (ht : t ≤ 1000000) (hk : k < g.n) (hP : P k = false) (S R : List Int) :
    (∀ i, g.Nx (g.fl t) t i → g.fr i = (k + t) % g.n → spec_slRun_next (((k + t) % g.n : Nat) : Int) (t : Int) ((g.n : Int), g.home, ms, S, g.mF t P, R) = some ((i : Int), ((g.n : Int), g.home, ms, S, g.mF t P, R))) ∧
    ((∀ i, ¬ g.Wt (g.fl t) ((k + t) % g.n) t i) → spec_slRun_next (((k + t) % g.n : Nat) : Int) (t : Int) ((g.n : Int), g.home, ms, S, g.mF t P, R) = some (-1, ((g.n : Int), g.home, ms, S, g.mF t P, R))) := by
  have hL := o.L20
  have step : ∀ i, i < g.L → spec_slRun_next_s1 (((k + t) % g.n : Nat) : Int) (t : Int) ((g.n : Int), g.home, ms, S, g.mF t P, R) (i : Int) = if g.fr i = (k + t) % g.n ∧ g.tk i ≤ t ∧ g.fl t i = none then some (.inr (.inr ((i : Int), ((g.n : Int), g.home, ms, S, g.mF t P, R)))) else some (.inl ((i + 1 : Nat) : Int)) := by
    intro i hi
    have hw := w64_nat1 (show i ≤ 4611686018427387904 by omega)
    have j2f : ∀ c0, spec_slRun_next_j2 c0 (i : Int) false = some (.inl ((i + 1 : Nat) : Int)) := by intro c0; simp [spec_slRun_next_j2, hw]
    unfold spec_slRun_next_s1
    dsimp only
    rw [if_pos (by rw [hm.len]; simpa using hi), at_eq, hm.get i hi, Option.bind_some]
    dsimp only
    by_cases h1 : g.fr i = (k + t) % g.n
    · rw [if_pos (by rw [h1]; simp)]
      by_cases h2 : g.tk i ≤ t
      · have hF := mF_at o hk hP hi h1
        rw [if_pos (by simpa using h2), at_eq, hF, Option.bind_some]
        by_cases h3 : g.fl t i = none
        · rw [if_pos ⟨h1, h2, h3⟩, show decide (fV (g.fl t) i < 0) = true from decide_eq_true ((fV_neg o).2 h3)]
          rfl
        · rw [if_neg (fun h => h3 h.2.2), show decide (fV (g.fl t) i < 0) = false from decide_eq_false (fun h => h3 ((fV_neg o).1 h)), j2f]
      · rw [if_neg (by simpa using h2), j2f, if_neg (fun h => h2 h.2.1)]
    · rw [if_neg (by simp only [beq_iff_eq]; omega), j2f, if_neg (fun h => h1 h.1)]
  have h := iter_find (step := spec_slRun_next_s1 (((k + t) % g.n : Nat) : Int) (t : Int) ((g.n : Int), g.home, ms, S, g.mF t P, R)) (List.range g.L) (fun i => (i : Int)) (fun _ i => decide (g.fr i = (k + t) % g.n ∧ g.tk i ≤ t ∧ g.fl t i = none))
    (fun i => .inr ((i : Int), ((g.n : Int), g.home, ms, S, g.mF t P, R))) (.inl ())
    (fun i x hi hx hp => by rw [List.length_range] at hi; rw [step i hi, if_neg (of_decide_eq_false hp)])
    (fun i x hi hx hp => by rw [List.length_range] at hi; rw [step i hi, if_pos (of_decide_eq_true hp)])
    (by unfold spec_slRun_next_s1; dsimp only; rw [if_neg (by rw [hm.len, List.length_range]; simp)])
  unfold spec_slRun_next spec_slRun_next_l1
  constructor
  · intro i hn hi
    have hw := hn.1
    rcases h with ⟨j, x, h1, h2, h3, h4, h5⟩ | ⟨h1, h2⟩
    · rw [List.length_range] at h1
      have h3 := of_decide_eq_true h3
      have hj : g.Wt (g.fl t) (g.fr i) t j := ⟨h1, h3.1.trans hi.symm, h3.2⟩
      have hij : j = i := by
        rcases Nat.lt_trichotomy j i with hl | hl | hl
        · exact absurd hj (hn.2 j hl)
        · exact hl
        · have := of_decide_eq_false (h4 i i hl (by rw [List.getElem?_range hw.1]))
          exact absurd ⟨hi, hw.2.2⟩ this
      subst hij
      have e0 : ((0 : Nat) : Int) = 0 := rfl
      rw [e0] at h5
      rw [h5]; rfl
    · have := of_decide_eq_false (h1 i i (by rw [List.getElem?_range hw.1]))
      exact absurd ⟨hi, hw.2.2⟩ this
  · intro hno
    rcases h with ⟨j, x, h1, h2, h3, h4, h5⟩ | ⟨h1, h2⟩
    · rw [List.length_range] at h1
      have h3 := of_decide_eq_true h3
      exact absurd ⟨h1, h3⟩ (hno j)
    · have e0 : ((0 : Nat) : Int) = 0 := rfl
      rw [e0] at h2
      rw [h2]; rfl

/-- Behind the reading of a slot. -/
theorem spec_j4 (o : g.Ok) (hm : Fits g ms) (ht : t ≤ 1000000) (hk : k < g.n) (hP : P k = false) (c0 : Int × Bool × List Msg × List Int × List Int × List Int) (hc : c0.1 = (g.n : Int)) (S R : List Int) (hSl : S.length = g.n) :
    spec_slRun_tick_j4 (t : Int) c0 (g.n : Int) g.home ms (g.mF t P) (k : Int) S R true = some (.inl ((g.n : Int), g.home, ms, S, g.mF t P, R, ((k + 1 : Nat) : Int))) ∧
    (∀ i, g.Nx (g.fl t) t i → g.fr i = (k + t) % g.n → spec_slRun_tick_j4 (t : Int) c0 (g.n : Int) g.home ms (g.mF t P) (k : Int) S R false = some (.inl ((g.n : Int), g.home, ms, S.set k ((i : Int) + 1), (g.mF t P).set i (t : Int), R, ((k + 1 : Nat) : Int)))) ∧
      ((∀ i, ¬ g.Wt (g.fl t) ((k + t) % g.n) t i) → spec_slRun_tick_j4 (t : Int) c0 (g.n : Int) g.home ms (g.mF t P) (k : Int) S R false = some (.inl ((g.n : Int), g.home, ms, S, g.mF t P, R, ((k + 1 : Nat) : Int)))) := by
  have hn := o.n12
  have hL := o.L20
  obtain ⟨s1, s2⟩ := spec_search o hm ht hk hP S R
  have hat : Int.tmod (w64 ((k : Int) + (t : Int))) c0.1 = (((k + t) % g.n : Nat) : Int) := by
    rw [hc, w64_id (by omega) (by omega), show (k : Int) + (t : Int) = ((k + t : Nat) : Int) by omega, tmod_nat]
  have j2 : ∀ a b c d e f, spec_slRun_tick_j2 (k : Int) (a, b, c, d, e, f) = some (.inl (a, b, c, d, e, f, ((k + 1 : Nat) : Int))) := by
    intros; unfold spec_slRun_tick_j2; dsimp only; rw [w64_nat1 (by omega)]
  refine ⟨?_, ?_, ?_⟩
  · unfold spec_slRun_tick_j4
    rw [if_pos rfl, j2]
  · intro i h1 h2
    have hi := h1.1.1
    unfold spec_slRun_tick_j4
    rw [if_neg (by simp), hat, s1 i h1 h2, Option.bind_some]
    dsimp only
    have e1 : w64 ((i : Int) + 1) = (i : Int) + 1 := w64_id (by omega) (by omega)
    rw [if_pos (by simp), at_some (by omega), Option.bind_some, at_some (by rw [mF_len]; exact hi), Option.bind_some, j2, e1]
    rfl
  · intro h1
    unfold spec_slRun_tick_j4
    rw [if_neg (by simp), hat, s2 h1, Option.bind_some]
    dsimp only
    rw [if_neg (by simp), j2]

/-- One slot of the second program. -/
theorem spec_slot_ok (o : g.Ok) (hm : Fits g ms) (ht : t ≤ 1000000) (hk : k < g.n) (hP : P k = false) (c0 : Int × Bool × List Msg × List Int × List Int × List Int) (hc : c0.1 = (g.n : Int)) (hcl : c0.2.2.2.1.length = g.n) :
    spec_slRun_tick_s1 (t : Int) c0 ((g.n : Int), g.home, ms, g.mS t P, g.mF t P, g.mR t P, (k : Int)) = some (.inl ((g.n : Int), g.home, ms, g.mS t (add P k), g.mF t (add P k), g.mR t (add P k), ((k + 1 : Nat) : Int))) := by
  have hn := o.n2
  have hn12 := o.n12
  have hL := o.L20
  have hSk := mS_at (g := g) (t := t) hk hP
  have hat : Int.tmod (w64 ((k : Int) + (t : Int))) c0.1 = (((k + t) % g.n : Nat) : Int) := by
    rw [hc, w64_id (by omega) (by omega), show (k : Int) + (t : Int) = ((k + t : Nat) : Int) by omega, tmod_nat]
  unfold spec_slRun_tick_s1
  dsimp only
  rw [hcl, if_pos (by simpa using hk), nz_ok (by omega), Option.bind_some, at_eq, hSk, Option.bind_some]
  by_cases hh : ∃ i, g.Hold (g.fl t) t i k
  · obtain ⟨i, hi⟩ := hh
    have hv := sV_hold o hk hi
    obtain ⟨hil, f, hf, h1, h2⟩ := hi
    have hft := (fl_lt t hf).1
    have hlr := life_range o hil
    have hhr := hop_range o hil
    have hto := at_to o hil h2 hft (by omega)
    rw [hv] at hSk ⊢
    have e1 : w64 ((i : Int) + 1 - 1) = (i : Int) := by rw [w64_id (by omega) (by omega)]; omega
    rw [e1, if_pos (by simp), at_eq, hm.get i hil, Option.bind_some, hat]
    dsimp only
    have hRk := mR_at o hk hP hil hf h2
    have hothers : ∀ j f', j < g.L → g.fl t j = some f' → (k + f') % g.n = g.fr j → t ≤ f' + g.life j → j = i := fun j f' q1 q2 q3 q4 => uniq o t hk ⟨q1, f', q2, q4, q3⟩ ⟨hil, f, hf, h1, h2⟩
    have hz : t = f + g.life i → ∀ j f', j < g.L → g.fl t j = some f' → (k + f') % g.n = g.fr j → f' + g.life j ≤ t := by
      intro hd j f' q1 q2 q3
      rcases Nat.lt_or_ge t (f' + g.life j) with q4 | q4
      · obtain rfl := hothers j f' q1 q2 q3 (by omega)
        rw [hf] at q2
        obtain rfl := by simpa using q2
        omega
      · exact q4
    have ei : Int.toNat (i : Int) = i := rfl
    have ek : Int.toNat (k : Int) = k := rfl
    have hS0 : ((g.mS t P).set k 0)[k]? = some 0 := by rw [List.getElem?_set, if_pos rfl, if_pos (by rw [mS_len]; exact hk)]
    by_cases c1 : t = f + g.hop i
    · have cTo := hto.1.2 c1
      rw [if_pos (by rw [cTo]; simp), at_eq, hRk, Option.bind_some, if_neg (by omega)]
      have hmR := mR_set o hk hP hil hf h2 c1
      unfold spec_slRun_tick_j8
      rw [if_pos (by simp), e1, at_eq, hRk, Option.bind_some]
      unfold spec_slRun_tick_j5
      dsimp only
      rw [hat, ei]
      cases hhome : g.home with
      | false =>
        have hlife : g.life i = g.hop i := by unfold life; rw [if_neg (by simp [hhome])]
        have hb := gone_bl o hk hhome hil hf h2 c1
        obtain ⟨_, q1, q2⟩ := spec_j4 o hm ht hk hP c0 hc ((g.mS t P).set k 0) ((g.mR t P).set i (t : Int)) (by rw [List.length_set, mS_len])
        rw [hhome] at q1 q2
        rw [if_neg (by simp)]
        unfold spec_slRun_tick_j7 spec_slRun_tick_j6 spec_slRun_tick_j3
        dsimp only
        rw [if_neg (by simp), if_pos (by rfl), ek, at_eq, hS0, Option.bind_some, if_neg (by simp), if_pos (by rfl)]
        rcases fill_ok o hk hP hb (hz (by omega)) with ⟨i0, r1, r2, r3, r4⟩ | ⟨r1, r3, r4⟩
        · rw [q1 i0 r1 r2, r3, r4, hmR, List.set_set]
        · rw [q2 r1, r3, r4, hmR]
      | true =>
        have hlife : g.life i = g.n := by unfold life; rw [if_pos hhome]
        have hb : g.Bl (g.fl t) k t := home_bl hhome hil hf h2 (by omega)
        have cFr : ¬ (k + t) % g.n = g.fr i := fun h => by have := hto.2.1 h; omega
        obtain ⟨q, _, _⟩ := spec_j4 o hm ht hk hP c0 hc (g.mS t P) ((g.mR t P).set i (t : Int)) mS_len
        rw [hhome] at q
        rw [if_pos rfl, if_neg (by simp only [beq_iff_eq]; omega)]
        unfold spec_slRun_tick_j7 spec_slRun_tick_j6 spec_slRun_tick_j3
        dsimp only
        rw [if_neg (by simp), if_neg (by simp), at_eq, hSk, Option.bind_some, if_pos (by simp), q, mS_set (sV_keep o hk hil hf h2 (by omega)), set_same hSk, mF_keep o hk (.inl hb), hmR]
    · have cTo : ¬ (k + t) % g.n = g.to i := fun h => c1 (hto.1.1 h)
      rw [if_neg (by simp only [beq_iff_eq]; omega)]
      have hmR : g.mR t (add P k) = g.mR t P := mR_keep o hk fun j f' q1 q2 q3 q4 => by
        have := life_range o q1
        obtain rfl := hothers j f' q1 q2 q3 (by omega)
        rw [hf] at q2
        obtain rfl := by simpa using q2
        exact c1 q4
      unfold spec_slRun_tick_j8
      rw [if_neg (by simp)]
      unfold spec_slRun_tick_j5
      dsimp only
      rw [hat]
      obtain ⟨q, _, _⟩ := spec_j4 o hm ht hk hP c0 hc (g.mS t P) (g.mR t P) mS_len
      have keep : t < f + g.life i → spec_slRun_tick_j7 (t : Int) c0 (g.n : Int) g.home ms (g.mS t P) (g.mF t P) (k : Int) (g.mR t P) false false = some (.inl ((g.n : Int), g.home, ms, g.mS t (add P k), g.mF t (add P k), g.mR t (add P k), ((k + 1 : Nat) : Int))) := by
        intro hd
        unfold spec_slRun_tick_j7 spec_slRun_tick_j6 spec_slRun_tick_j3
        dsimp only
        rw [if_neg (by simp), if_neg (by simp), at_eq, hSk, Option.bind_some, if_pos (by simp), q, mS_set (sV_keep o hk hil hf h2 hd), set_same hSk, mF_keep o hk (.inl (keep_bl o hil hf h2 hd)), hmR]
      cases hhome : g.home with
      | false =>
        have hlife : g.life i = g.hop i := by unfold life; rw [if_neg (by simp [hhome])]
        rw [hhome] at keep
        rw [if_neg (by simp)]
        exact keep (by omega)
      | true =>
        have hlife : g.life i = g.n := by unfold life; rw [if_pos hhome]
        rw [hhome] at keep
        rw [if_pos rfl]
        by_cases c2 : t = f + g.n
        · have cFr := hto.2.2 c2
          have hb : g.Bl (g.fl t) k t := home_bl hhome hil hf h2 (by omega)
          obtain ⟨q', _, _⟩ := spec_j4 o hm ht hk hP c0 hc ((g.mS t P).set k 0) (g.mR t P) (by rw [List.length_set, mS_len])
          rw [hhome] at q'
          rw [if_pos (by rw [cFr]; simp), e1, at_eq, hRk, Option.bind_some, if_pos (by omega), show decide (((f + g.hop i : Nat) : Int) ≥ 0) = true by simp; omega]
          unfold spec_slRun_tick_j7 spec_slRun_tick_j6 spec_slRun_tick_j3
          dsimp only
          rw [if_pos rfl, if_pos rfl, ek, at_eq, hS0, Option.bind_some, if_neg (by simp), if_pos rfl, q']
          rw [mS_set (sV_zero o hk (hz (by omega)) (.inl hb)), mF_keep o hk (.inl hb), hmR]
        · have cFr : ¬ (k + t) % g.n = g.fr i := fun h => c2 (hto.2.1 h)
          rw [if_neg (by simp only [beq_iff_eq]; omega)]
          exact keep (by omega)
  · have hno : ∀ i, ¬ g.Hold (g.fl t) t i k := fun i hi => hh ⟨i, hi⟩
    have hv : g.sV (g.fl t) t k = 0 := sV_none hno
    rw [hv] at hSk ⊢
    have e1 : w64 (0 - 1) = -1 := by rw [w64_id (by omega) (by omega)]; omega
    have hz : ∀ j f', j < g.L → g.fl t j = some f' → (k + f') % g.n = g.fr j → f' + g.life j < t := by
      intro j f' q1 q2 q3
      rcases Nat.lt_or_ge (f' + g.life j) t with q4 | q4
      · exact q4
      · exact absurd ⟨q1, f', q2, q4, q3⟩ (hno j)
    have hmR : g.mR t (add P k) = g.mR t P := mR_keep o hk fun j f' q1 q2 q3 q4 => by
      have := life_range o q1
      have := hz j f' q1 q2 q3
      omega
    rw [e1, if_neg (by simp)]
    obtain ⟨_, q1, q2⟩ := spec_j4 o hm ht hk hP c0 hc (g.mS t P) (g.mR t P) mS_len
    unfold spec_slRun_tick_j3
    dsimp only
    rw [at_eq, hSk, Option.bind_some, if_neg (by simp), if_neg (by simp)]
    rcases fill_ok o hk hP (free_bl o hno) (fun j f' a b c => Nat.le_of_lt (hz j f' a b c)) with ⟨i0, r1, r2, r3, r4⟩ | ⟨r1, r3, r4⟩
    · rw [q1 i0 r1 r2, r3, r4, hmR]
    · rw [q2 r1, r3, r4, hmR, set_same hSk]

/-- The state of the second program behind so many ticks. -/
noncomputable def stS (g : Rg) (ms : List Msg) (t : Nat) : Int × Bool × List Msg × List Int × List Int × List Int := ((g.n : Int), g.home, ms, g.slL t, g.flL t, g.rdL t)

theorem spec_tick_ok (o : g.Ok) (hm : Fits g ms) {t : Nat} (ht : t ≤ 1000000) : spec_slRun_tick (t : Int) (g.stS ms t) = some (g.stS ms (t + 1)) := by
  have hn := o.n2
  have hn12 := o.n12
  obtain ⟨b1, b2, b3⟩ := mid_begin (g := g) t
  have hcl : (g.stS ms t).2.2.2.1.length = g.n := mapr_len
  have key := iter_to (step := spec_slRun_tick_s1 (t : Int) (g.stS ms t)) (fun m => ((g.n : Int), g.home, ms, g.mS t (fun k => decide (k < m)), g.mF t (fun k => decide (k < m)), g.mR t (fun k => decide (k < m)), (m : Int))) g.n
    (r := g.stS ms (t + 1)) (by
      intro m hm'
      rw [spec_slot_ok (P := fun k => decide (k < m)) o hm ht hm' (by simp) (g.stS ms t) rfl hcl]
      obtain ⟨c1, c2, c3⟩ := mid_congr o t (P := add (fun k => decide (k < m)) m) (P' := fun k => decide (k < m + 1)) (by
        intro k hk'
        by_cases e : k = m
        · rw [e, add_self]; simp
        · rw [add_ne e]
          simp only [decide_eq_decide]
          omega)
      rw [c1, c2, c3]) (by
      unfold spec_slRun_tick_s1
      dsimp only
      rw [hcl, if_neg (by simp)]
      obtain ⟨c1, c2, c3⟩ := mid_end o t (P := fun k => decide (k < g.n)) (fun k hk => by simpa using hk)
      rw [c1, c2, c3]
      rfl)
  have e0 : (fun k => decide (k < 0)) = (fun _ => false) := by funext k; simp
  simp only [e0] at key
  unfold spec_slRun_tick spec_slRun_tick_l1
  rw [b1, b2, b3] at key
  have e1 : ((0 : Nat) : Int) = 0 := rfl
  rw [e1] at key
  show (iter (spec_slRun_tick_s1 (t : Int) (g.stS ms t)) ((g.n : Int), g.home, ms, g.slL t, g.flL t, g.rdL t, (0 : Int))).bind _ = _
  rw [key]
  rfl

theorem spec_new_ok (o : g.Ok) (hm : Fits g ms) : spec_slNew ((g.n : Int), g.home) ms = some (g.stS ms 0) := by
  have hn := o.n12
  have hL := o.L20
  obtain ⟨z1, z2, z3⟩ := fl_zero g
  have key := iter_to (step := spec_slNew_s1 ms) (fun m => (List.replicate m (-1 : Int), (m : Int))) g.L (r := List.replicate g.L (-1 : Int)) (by
    intro m hm'
    unfold spec_slNew_s1
    dsimp only
    rw [if_pos (by rw [hm.len]; simpa using hm'), app_ok (by simp; omega), Option.bind_some, w64_nat1 (by omega), List.replicate_succ']) (by
    unfold spec_slNew_s1
    dsimp only
    rw [if_neg (by rw [hm.len]; simp)])
  unfold spec_slNew spec_slNew_l1
  rw [mk_ok (by omega) (by omega) (by dsimp only; omega), Option.bind_some]
  have e1 : ((0 : Nat) : Int) = 0 := rfl
  rw [e1] at key
  rw [show ([], (0 : Int)) = (List.replicate 0 (-1 : Int), (0 : Int)) from rfl, key, Option.bind_some]
  unfold stS
  rw [z1, z2, z3]
  rfl

/-- The second program behind so many ticks. -/
theorem spec_end_ok (o : g.Ok) (hm : Fits g ms) {T : Nat} (hT : T ≤ 1000000) : spec_slEnd ((g.n : Int), g.home) ms (T : Int) = some (g.stS ms T) := by
  have key := iter_to (step := spec_slEnd_s1 (T : Int)) (fun t => ((g.n : Int), g.home, ms, g.slL t, g.flL t, g.rdL t, (t : Int))) T (r := g.stS ms T) (by
    intro t ht
    unfold spec_slEnd_s1
    dsimp only
    rw [if_pos (by simpa using ht)]
    have := spec_tick_ok o hm (t := t) (by omega)
    unfold stS at this
    rw [this, Option.bind_some, w64_nat1 (by omega)]) (by
    unfold spec_slEnd_s1
    dsimp only
    rw [if_neg (by simp)]
    rfl)
  unfold spec_slEnd spec_slEnd_l1
  rw [spec_new_ok o hm, Option.bind_some]
  unfold stS at key ⊢
  have e1 : ((0 : Nat) : Int) = 0 := rfl
  rw [e1] at key
  dsimp only
  rw [key]
  rfl
end Rg
end Go.Proofs.Yteeejellpcikkaa.Ev.G5
