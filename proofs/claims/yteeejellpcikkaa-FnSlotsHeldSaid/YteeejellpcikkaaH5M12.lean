/- Slot rings: each slot has one message at most, from its filling to its freeing; no condition but that bytes are bytes. -/
import Derived.Test.YteeejellpcikkaaH5M11
set_option linter.unusedVariables false
set_option linter.unusedSimpArgs false
namespace Go.Proofs.Yteeejellpcikkaa.Ev.H5
open Go
set_option linter.unusedSimpArgs false
set_option linter.unusedVariables false

namespace Rg
variable {g : Rg} {ms : List Msg}

open Classical in
noncomputable def nz (g : Rg) (T k : Nat) : Bool := decide (∃ i, g.Hold (g.fl T) T i k)
theorem nz_iff {T k : Nat} : g.nz T k = true ↔ ∃ i, g.Hold (g.fl T) T i k := by unfold nz; simp
theorem nz_no {T k : Nat} (h : ¬ ∃ i, g.Hold (g.fl T) T i k) : g.nz T k = false := by
  cases h' : g.nz T k with
  | false => rfl
  | true => exact absurd (nz_iff.1 h') h
/-- On its way behind a tick. -/
noncomputable def fly (g : Rg) (t i : Nat) : Bool := decide (g.ft i ≤ t ∧ t < g.ft i + g.life i)
theorem hold_iff (o : g.Ok) {t i k : Nat} : g.Hold (g.fl (t + 1)) (t + 1) i k ↔ i < g.L ∧ g.fly t i = true ∧ (k + g.ft i) % g.n = g.fr i := by
  unfold fly
  simp only [decide_eq_true_eq]
  constructor
  · rintro ⟨hi, f, hf, h1, h2⟩
    have hlt := (fl_lt _ hf).1
    obtain rfl := fl_ft o hf
    exact ⟨hi, ⟨by omega, by omega⟩, h2⟩
  · rintro ⟨hi, ⟨h1, h2⟩, h3⟩
    exact ⟨hi, g.ft i, by rw [fl_iff o hi, if_pos (by omega)], by omega, h3⟩

theorem count_eq (o : g.Ok) (t : Nat) : (List.range g.n).countP (g.nz (t + 1)) = (List.range g.L).countP (g.fly t) := by
  rw [List.countP_eq_length_filter, List.countP_eq_length_filter]
  have hperm : (((List.range g.L).filter (g.fly t)).map fun i => g.pos (g.fr i) (g.ft i)).Perm ((List.range g.n).filter (g.nz (t + 1))) := by
    refine (List.perm_ext_iff_of_nodup ?_ ?_).2 ?_
    · unfold List.Nodup
      rw [List.pairwise_map]
      have hnd : List.Nodup ((List.range g.L).filter (g.fly t)) := List.Pairwise.filter _ List.nodup_range
      refine List.Pairwise.imp_of_mem ?_ hnd
      intro a b ha hb hne he
      simp only [List.mem_filter, List.mem_range] at ha hb
      apply hne
      refine uniq o (t + 1) (pos_lt o (g.fr a) (g.ft a)) ((hold_iff o).2 ⟨ha.1, ha.2, pos_at o (o.fr a ha.1)⟩) ((hold_iff o).2 ⟨hb.1, hb.2, ?_⟩)
      rw [he]
      exact pos_at o (o.fr b hb.1)
    · exact List.Pairwise.filter _ List.nodup_range
    · intro k
      simp only [List.mem_map, List.mem_filter, List.mem_range]
      constructor
      · rintro ⟨i, ⟨hi, h1⟩, rfl⟩
        exact ⟨pos_lt o _ _, nz_iff.2 ⟨i, (hold_iff o).2 ⟨hi, h1, pos_at o (o.fr i hi)⟩⟩⟩
      · rintro ⟨hk, h⟩
        obtain ⟨i, hi⟩ := nz_iff.1 h
        obtain ⟨h1, h2, h3⟩ := (hold_iff o).1 hi
        exact ⟨i, ⟨h1, h2⟩, (pos_k o hk h1).2 h3⟩
  have := hperm.length_eq
  rw [List.length_map] at this
  exact this.symm

theorem ftL_lt (o : g.Ok) {i : Nat} (hi : i < g.L) : g.ft i < 600 := by
  have := (ft_eq o hi).2
  have := E_le o
  omega

theorem held_loop (o : g.Ok) (hm : Fits g ms) {t : Nat} (ht : t ≤ 400) : laws_FnSlotsHeld_l10 (((g.n : Int), g.home), ms, (t : Int)) (g.slL (t + 1), true) (g.ftL, true) (g.reL, true) (0, 0) = some (.inl (((List.range g.n).countP (g.nz (t + 1)) : Nat) : Int)) := by
  have hn := o.n2
  have hn12 := o.n12
  have hL := o.L20
  have key := iter_to (step := laws_FnSlotsHeld_s10 (((g.n : Int), g.home), ms, (t : Int)) (g.slL (t + 1), true) (g.ftL, true) (g.reL, true)) (fun k => ((((List.range k).countP (g.nz (t + 1)) : Nat) : Int), (k : Int))) g.n (r := .inl (((List.range g.n).countP (g.nz (t + 1)) : Nat) : Int)) (by
    intro k hk
    have hc := countP_range_le (g.nz (t + 1)) k
    have e := countP_range_succ (g.nz (t + 1)) k
    have hs : (g.slL (t + 1))[k]? = some (g.sV (g.fl (t + 1)) (t + 1) k) := mapr_get hk
    have j11 : ∀ c : Int, laws_FnSlotsHeld_j11 (k : Int) c = some (.inl (c, ((k + 1 : Nat) : Int))) := by
      intro c; unfold laws_FnSlotsHeld_j11; rw [w64_nat1 (by omega)]
    unfold laws_FnSlotsHeld_s10
    dsimp only
    rw [slL_len, if_pos (by simpa using hk), at_eq, hs, Option.bind_some]
    by_cases hh : ∃ i, g.Hold (g.fl (t + 1)) (t + 1) i k
    · obtain ⟨i, hi⟩ := hh
      have hnz : g.nz (t + 1) k = true := nz_iff.2 ⟨i, hi⟩
      rw [sV_hold o hk hi]
      obtain ⟨hil, hfl, hsl⟩ := (hold_iff o).1 hi
      have hfl := of_decide_eq_true hfl
      have hft := ftL_lt o hil
      have hlr := life_range o hil
      have e1 : w64 ((i : Int) + 1 - 1) = (i : Int) := by rw [w64_id (by omega) (by omega)]; omega
      have e2 : Int.tmod (w64 ((k : Int) + (g.ft i : Int))) (g.n : Int) = (g.fr i : Int) := by
        rw [w64_id (by omega) (by omega), show (k : Int) + (g.ft i : Int) = ((k + g.ft i : Nat) : Int) by omega, tmod_nat, hsl]
      have j12 : laws_FnSlotsHeld_j12 (((List.range k).countP (g.nz (t + 1)) : Nat) : Int) (k : Int) false = some (.inl ((((List.range (k + 1)).countP (g.nz (t + 1)) : Nat) : Int), ((k + 1 : Nat) : Int))) := by
        rw [hnz, if_pos rfl] at e
        unfold laws_FnSlotsHeld_j12
        rw [if_neg (by simp), j11, w64_nat1 (by omega), e]
      rw [if_neg (by simp; omega), e1, at_eq, hm.get i hil, Option.bind_some, at_eq, ftL_at hil, Option.bind_some, if_neg (by simp; omega), nz_ok (by omega), Option.bind_some, e2, if_neg (by simp)]
      cases hhome : g.home with
      | false =>
        have hlife : g.life i = g.hop i := by unfold life; rw [if_neg (by simp [hhome])]
        rw [if_pos (by rfl), at_eq, reL_at hil, Option.bind_some, if_neg (by simp; omega), if_neg (by simp), j12]
      | true =>
        have hlife : g.life i = g.n := by unfold life; rw [if_pos hhome]
        rw [if_neg (by simp), if_pos rfl, w64_id (by omega) (by omega), show decide ((g.ft i : Int) + (g.n : Int) ≤ (t : Int)) = false by simp; omega, j12]
    · have hnz : g.nz (t + 1) k = false := nz_no hh
      rw [sV_none fun i hi => hh ⟨i, hi⟩, if_pos (by simp), j11]
      rw [hnz, if_neg (by simp)] at e
      have e : (List.range (k + 1)).countP (g.nz (t + 1)) = (List.range k).countP (g.nz (t + 1)) := e
      rw [e]) (by
    unfold laws_FnSlotsHeld_s10
    dsimp only
    rw [slL_len, if_neg (by simp)])
  exact key

theorem want_loop (o : g.Ok) (hm : Fits g ms) {t : Nat} (ht : t ≤ 400) : laws_FnSlotsHeld_l13 (((g.n : Int), g.home), ms, (t : Int)) (g.ftL, true) (g.reL, true) (0, 0) = some (((List.range g.L).countP (g.fly t) : Nat) : Int) := by
  have hn12 := o.n12
  have hL := o.L20
  have key := iter_to (step := laws_FnSlotsHeld_s13 (((g.n : Int), g.home), ms, (t : Int)) (g.ftL, true) (g.reL, true)) (fun i => ((((List.range i).countP (g.fly t) : Nat) : Int), (i : Int))) g.L (r := (((List.range g.L).countP (g.fly t) : Nat) : Int)) (by
    intro i hi
    have hc := countP_range_le (g.fly t) i
    have e := countP_range_succ (g.fly t) i
    have hft := ftL_lt o hi
    have hlr := life_range o hi
    have j14 : ∀ c : Int, laws_FnSlotsHeld_j14 (i : Int) c = some (.inl (c, ((i + 1 : Nat) : Int))) := by
      intro c; unfold laws_FnSlotsHeld_j14; rw [w64_nat1 (by omega)]
    have j15 : laws_FnSlotsHeld_j15 (((g.n : Int), g.home), ms, (t : Int)) (g.ftL, true) (((List.range i).countP (g.fly t) : Nat) : Int) (i : Int) ((g.ft i + g.life i : Nat) : Int) = some (.inl ((((List.range (i + 1)).countP (g.fly t) : Nat) : Int), ((i + 1 : Nat) : Int))) := by
      unfold laws_FnSlotsHeld_j15
      dsimp only
      rw [at_eq, ftL_at hi, Option.bind_some]
      by_cases h1 : g.ft i ≤ t
      · rw [if_pos (by simpa using h1)]
        by_cases h2 : t < g.ft i + g.life i
        · rw [show decide ((t : Int) < ((g.ft i + g.life i : Nat) : Int)) = true by simp; omega]
          rw [show g.fly t i = true from decide_eq_true ⟨h1, h2⟩, if_pos rfl] at e
          unfold laws_FnSlotsHeld_j16
          rw [if_pos rfl, j14, w64_nat1 (by omega), e]
        · rw [show decide ((t : Int) < ((g.ft i + g.life i : Nat) : Int)) = false by simp; omega]
          rw [show g.fly t i = false from decide_eq_false fun h => h2 h.2, if_neg (by simp)] at e
          have e : (List.range (i + 1)).countP (g.fly t) = (List.range i).countP (g.fly t) := e
          unfold laws_FnSlotsHeld_j16
          rw [if_neg (by simp), j14, e]
      · rw [if_neg (by simpa using h1)]
        rw [show g.fly t i = false from decide_eq_false fun h => h1 h.1, if_neg (by simp)] at e
        have e : (List.range (i + 1)).countP (g.fly t) = (List.range i).countP (g.fly t) := e
        unfold laws_FnSlotsHeld_j16
        rw [if_neg (by simp), j14, e]
    unfold laws_FnSlotsHeld_s13
    dsimp only
    rw [if_pos (by rw [hm.len]; simpa using hi), at_eq, reL_at hi, Option.bind_some]
    cases hhome : g.home with
    | false =>
      have hlife : g.life i = g.hop i := by unfold life; rw [if_neg (by simp [hhome])]
      rw [hhome, hlife] at j15
      rw [if_neg (by simp)]
      exact j15
    | true =>
      have hlife : g.life i = g.n := by unfold life; rw [if_pos hhome]
      rw [hhome, hlife] at j15
      rw [if_pos rfl, at_eq, ftL_at hi, Option.bind_some, w64_id (by omega) (by omega), show (g.ft i : Int) + (g.n : Int) = ((g.ft i + g.n : Nat) : Int) by omega]
      exact j15) (by
    unfold laws_FnSlotsHeld_s13
    dsimp only
    rw [if_neg (by rw [hm.len]; simp)])
  exact key

theorem queue_loop (o : g.Ok) (hm : Fits g ms) (s : Int) {t : Nat} : laws_FnSlotsHeld_l5 (((g.n : Int), g.home), ms, s, (t : Int)) (g.ftL, true) (0, 0) = some ((g.qL s t g.L).length : Int) := by
  have hL := o.L20
  have key := iter_to (step := laws_FnSlotsHeld_s5 (((g.n : Int), g.home), ms, s, (t : Int)) (g.ftL, true)) (fun i => ((((List.range i).countP (g.qIn s t) : Nat) : Int), (i : Int))) g.L (r := (((List.range g.L).countP (g.qIn s t) : Nat) : Int)) (by
    intro i hi
    have hc := countP_range_le (g.qIn s t) i
    have e := countP_range_succ (g.qIn s t) i
    have j6 : ∀ c : Int, laws_FnSlotsHeld_j6 (i : Int) c = some (.inl (c, ((i + 1 : Nat) : Int))) := by
      intro c; unfold laws_FnSlotsHeld_j6; rw [w64_nat1 (by omega)]
    have no : g.qIn s t i = false → laws_FnSlotsHeld_j7 (((List.range i).countP (g.qIn s t) : Nat) : Int) (i : Int) false = some (.inl ((((List.range (i + 1)).countP (g.qIn s t) : Nat) : Int), ((i + 1 : Nat) : Int))) := by
      intro h
      rw [h, if_neg (by simp)] at e
      have e : (List.range (i + 1)).countP (g.qIn s t) = (List.range i).countP (g.qIn s t) := e
      unfold laws_FnSlotsHeld_j7
      rw [if_neg (by simp), j6, e]
    unfold laws_FnSlotsHeld_s5
    dsimp only
    rw [if_pos (by rw [hm.len]; simpa using hi), at_eq, hm.get i hi, Option.bind_some]
    dsimp only
    by_cases h1 : (g.fr i : Int) = s
    · rw [if_pos (by simpa using h1)]
      by_cases h2 : g.tk i ≤ t
      · rw [if_pos (by simpa using h2), at_eq, ftL_at hi, Option.bind_some]
        by_cases h3 : t < g.ft i
        · rw [show decide ((g.ft i : Int) > (t : Int)) = true by simp; omega]
          rw [show g.qIn s t i = true from decide_eq_true ⟨h1, h2, h3⟩, if_pos rfl] at e
          unfold laws_FnSlotsHeld_j7
          rw [if_pos rfl, j6, w64_nat1 (by omega), e]
        · rw [show decide ((g.ft i : Int) > (t : Int)) = false by simp; omega]
          exact no (decide_eq_false fun h => h3 h.2.2)
      · rw [if_neg (by simpa using h2)]
        exact no (decide_eq_false fun h => h2 h.2.1)
    · rw [if_neg (by simpa using h1)]
      exact no (decide_eq_false fun h => h1 h.1)) (by
    unfold laws_FnSlotsHeld_s5
    dsimp only
    rw [if_neg (by rw [hm.len]; simp)])
  have e : (g.qL s t g.L).length = (List.range g.L).countP (g.qIn s t) := by
    unfold qL
    rw [List.length_map, List.countP_eq_length_filter]
  rw [e]
  exact key
end Rg

/-- Of what is no slot ring with messages nothing is told. -/
theorem no_filled {r : Int × Bool} {ms : List Msg} (hl : ms.length ≤ 1000000) (h : slottedB r ms = false) : impl_FilledAt r ms = some ([], false) := by
  unfold impl_FilledAt
  rw [slotted_eq r ms hl, h, Option.bind_some, if_pos (by rfl)]

theorem queue_part (r : Int × Bool) (ms : List Msg) (s t : Int) (hl : ms.length ≤ 1000000) : ∃ q, impl_QueueAt r ms s t = some q ∧ spec_QueueAt r ms s t = some q ∧ q.1.length ≤ 1000000 ∧ laws_FnSlotsHeld_j4 (r, ms, s, t) q () = some true := by
  cases hv : slottedB r ms with
  | false =>
    refine ⟨([], false), ?_, ?_, by simp, ?_⟩
    · unfold impl_QueueAt
      rw [no_filled hl hv, Option.bind_some, if_pos (by rfl)]
      simp [impl_QueueAt_j1]
    · unfold spec_QueueAt
      rw [slAll_eq r ms hl, hv, Option.bind_some, if_pos (by rfl)]
      simp [spec_QueueAt_j1]
    · simp [laws_FnSlotsHeld_j4]
  | true =>
    obtain ⟨o, hm, hr⟩ := rg_ok hv
    generalize rgOf r ms = g at o hm hr
    subst hr
    have hL := o.L20
    refine ⟨_, Rg.impl_queue o hm s t, Rg.spec_queue o hm s t, ?_, ?_⟩
    · split
      · have := Rg.qL_len (g := g) s t.toNat g.L
        dsimp only
        omega
      · simp
    · by_cases c : (inB 0 ((g.n : Int) - 1) s && inB 0 400 t) = true
      · rw [if_pos c]
        simp only [Bool.and_eq_true, inB_iff] at c
        obtain ⟨t', rfl⟩ : ∃ t' : Nat, t = (t' : Int) := ⟨t.toNat, by omega⟩
        unfold laws_FnSlotsHeld_j4
        dsimp only
        rw [if_pos rfl, Rg.impl_filled o hm, Option.bind_some, Rg.queue_loop o hm s, Option.bind_some]
        simp
      · rw [if_neg c]
        simp [laws_FnSlotsHeld_j4]

theorem full_part (r : Int × Bool) (ms : List Msg) (t : Int) (hl : ms.length ≤ 1000000) : ∃ q, impl_FullTicks r ms t = some q ∧ spec_FullTicks r ms t = some q ∧ (q.2 = true → 0 ≤ q.1 ∧ q.1 ≤ t) := by
  cases hv : slottedB r ms with
  | false =>
    refine ⟨(0, false), ?_, ?_, by simp⟩
    · unfold impl_FullTicks
      rw [slotted_eq r ms hl, hv, Option.bind_some, if_pos (by rfl)]
      simp [impl_FullTicks_j1]
    · unfold spec_FullTicks
      rw [slAll_eq r ms hl, hv, Option.bind_some, if_pos (by rfl)]
      simp [spec_FullTicks_j1]
  | true =>
    obtain ⟨o, hm, hr⟩ := rg_ok hv
    generalize rgOf r ms = g at o hm hr
    subst hr
    refine ⟨_, Rg.impl_full o hm t, Rg.spec_full o hm t, ?_⟩
    split
    · rename_i c
      rw [inB_iff] at c
      intro _
      have := Rg.countP_range_le g.fullB t.toNat
      have h2 : g.fullN t.toNat ≤ t.toNat := this
      dsimp only
      omega
    · simp

theorem turn_part (r : Int × Bool) (ms : List Msg) (b : Int) (hl : ms.length ≤ 1000000) (v226 : (Int × Bool) × List Msg × Int × Int) (v227 : List Int × Bool) (hj : laws_FnSlotsHeld_j4 v226 v227 () = some true) :
    ∃ q, impl_TurnMessages r ms b = some q ∧ spec_TurnMessages r ms b = some q ∧ q.1.length ≤ 1000000 ∧ laws_FnSlotsHeld_j3 v226 v227 (r, ms, b) q false = some true := by
  have hno : impl_TurnMessages_j1 r ms b true = some ([], false) ∧ spec_TurnMessages_j1 r ms b true = some ([], false) := by simp [impl_TurnMessages_j1, spec_TurnMessages_j1]
  have hj3 : laws_FnSlotsHeld_j3 v226 v227 (r, ms, b) ([], false) false = some true := by
    unfold laws_FnSlotsHeld_j3
    rw [if_neg (by simp), if_neg (by simp)]
    exact hj
  cases hv : slottedB r ms with
  | false =>
    refine ⟨([], false), ?_, ?_, by simp, hj3⟩
    · unfold impl_TurnMessages
      rw [slotted_eq r ms hl, hv, Option.bind_some, if_pos (by rfl)]
      exact hno.1
    · unfold spec_TurnMessages
      rw [slAll_eq r ms hl, hv, Option.bind_some, if_pos (by rfl)]
      exact hno.2
  | true =>
    obtain ⟨o, hm, hr⟩ := rg_ok hv
    generalize rgOf r ms = g at o hm hr
    subst hr
    have h2 := o.n2
    have h12 := o.n12
    have hL := o.L20
    have e1 : impl_TurnMessages ((g.n : Int), g.home) ms b = impl_TurnMessages_j1 ((g.n : Int), g.home) ms b (!inB 0 ((g.n : Int) - 1) b) := by
      unfold impl_TurnMessages
      rw [slotted_eq _ ms hl, hv, Option.bind_some, if_neg (by simp), within_eq, Option.bind_some, w64_id (by dsimp only; omega) (by dsimp only; omega)]
    have e2 : spec_TurnMessages ((g.n : Int), g.home) ms b = spec_TurnMessages_j1 ((g.n : Int), g.home) ms b (!inB 0 ((g.n : Int) - 1) b) := by
      unfold spec_TurnMessages
      rw [slAll_eq _ ms hl, hv, Option.bind_some, if_neg (by simp), l1In_eq, Option.bind_some, w64_id (by dsimp only; omega) (by dsimp only; omega)]
    rw [e1, e2]
    cases c : inB 0 ((g.n : Int) - 1) b with
    | false => exact ⟨_, hno.1, hno.2, by simp, hj3⟩
    | true =>
      rw [inB_iff] at c
      obtain ⟨x, rfl⟩ : ∃ x : Nat, b = (x : Int) := ⟨b.toNat, by omega⟩
      have hx : x < g.n := by omega
      have o2 := Rg.turn_ok o hx
      have hm2 := Rg.turn_fits o hm hx
      obtain ⟨f1, f2⟩ := Rg.turn_ft o hx
      refine ⟨(ms.map (tf (g.n : Int) (x : Int)), true), ?_, ?_, by simp; omega, ?_⟩
      · unfold impl_TurnMessages_j1
        rw [if_neg (by simp), impl_turned_eq _ _ _ (by dsimp only; omega) hl]
        rfl
      · unfold spec_TurnMessages_j1
        rw [if_neg (by simp), spec_turned_eq _ _ _ (by dsimp only; omega) hl]
        rfl
      · have a1 := Rg.impl_filled o2 hm2
        have a2 := Rg.impl_read o2 hm2
        rw [f1] at a1
        rw [f2] at a2
        have a1 : impl_FilledAt ((g.n : Int), g.home) (ms.map (tf (g.n : Int) (x : Int))) = some (g.ftL, true) := a1
        have a2 : impl_ReadAt ((g.n : Int), g.home) (ms.map (tf (g.n : Int) (x : Int))) = some (g.reL, true) := a2
        have k1 := same_self g.ftL (by rw [Rg.ftL_len]; omega)
        have k2 := same_self g.reL (by rw [Rg.reL_len]; omega)
        unfold laws_FnSlotsHeld_j3
        dsimp only
        rw [if_neg (by simp), if_pos rfl, Rg.impl_filled o hm, Option.bind_some, a1, Option.bind_some, a2, Option.bind_some, Rg.impl_read o hm, Option.bind_some]
        dsimp only
        rw [if_neg (by simp), if_neg (by simp), k1, Option.bind_some, if_neg (by simp), if_neg (by simp), if_neg (by simp), k2, Option.bind_some]
        unfold laws_FnSlotsHeld_j8
        rw [if_neg (by simp)]
        exact hj

theorem held_more (p1 : List Int) (hp : Bytes p1) : laws_FnSlotsHeld_j2 p1 () = some true := by
  obtain ⟨r, ms, s, t, e1, h1⟩ := drawQueue_ok hp
  obtain ⟨r2, ms2, t2, e2, h2⟩ := drawFull_ok hp
  obtain ⟨r3, ms3, b, e3, h3⟩ := drawTurn_ok hp
  obtain ⟨q, a1, a2, a3, a4⟩ := queue_part r ms s t (by omega)
  obtain ⟨q2, b1, b2, b3⟩ := full_part r2 ms2 t2 (by omega)
  obtain ⟨q3, c1, c2, c3, c4⟩ := turn_part r3 ms3 b (by omega) _ _ a4
  unfold laws_FnSlotsHeld_j2
  rw [e1, Option.bind_some]
  dsimp only
  rw [a1, Option.bind_some, a2, Option.bind_some, e2, Option.bind_some]
  dsimp only
  rw [b1, Option.bind_some, b2, Option.bind_some, e3, Option.bind_some]
  dsimp only
  rw [c1, Option.bind_some, c2, Option.bind_some, if_neg (by simp), same_self _ a3, Option.bind_some, if_neg (by simp), if_neg (by simp), if_neg (by simp)]
  cases hq : q2.2 with
  | true =>
    have := b3 hq
    rw [if_pos rfl, if_neg (by simp; omega), if_neg (by simp; omega), if_neg (by simp), msame_self _ c3, Option.bind_some]
    exact c4
  | false =>
    rw [if_neg (by simp), if_neg (by simp), msame_self _ c3, Option.bind_some]
    exact c4

theorem slots_part (r : Int × Bool) (ms : List Msg) (t : Int) (hl : ms.length ≤ 1000000) (p1 : List Int) (hp : Bytes p1) : ∃ q, impl_SlotsAt r ms t = some q ∧ spec_SlotsAt r ms t = some q ∧ q.1.length ≤ 1000000 ∧ laws_FnSlotsHeld_j1 p1 (r, ms, t) q false = some true := by
  have hj := held_more p1 hp
  have hj1 : laws_FnSlotsHeld_j1 p1 (r, ms, t) ([], false) false = some true := by
    unfold laws_FnSlotsHeld_j1
    rw [if_neg (by simp), if_neg (by simp)]
    exact hj
  cases hv : slottedB r ms with
  | false =>
    refine ⟨([], false), ?_, ?_, by simp, hj1⟩
    · unfold impl_SlotsAt
      rw [slotted_eq r ms hl, hv, Option.bind_some, if_pos (by rfl)]
      simp [impl_SlotsAt_j1]
    · unfold spec_SlotsAt
      rw [slAll_eq r ms hl, hv, Option.bind_some, if_pos (by rfl)]
      simp [spec_SlotsAt_j1]
  | true =>
    obtain ⟨o, hm, hr⟩ := rg_ok hv
    generalize rgOf r ms = g at o hm hr
    subst hr
    have h2 := o.n2
    have h12 := o.n12
    have hL := o.L20
    cases c : inB 0 400 t with
    | false =>
      refine ⟨([], false), ?_, ?_, by simp, hj1⟩
      · unfold impl_SlotsAt
        rw [slotted_eq _ ms hl, hv, Option.bind_some, if_neg (by simp), slotTick_eq, c, Option.bind_some]
        simp [impl_SlotsAt_j1]
      · unfold spec_SlotsAt
        rw [slAll_eq _ ms hl, hv, Option.bind_some, if_neg (by simp), l1In_eq, c, Option.bind_some]
        simp [spec_SlotsAt_j1]
    | true =>
      rw [inB_iff] at c
      obtain ⟨t', rfl⟩ : ∃ t' : Nat, t = (t' : Int) := ⟨t.toNat, by omega⟩
      refine ⟨_, Rg.impl_slots o hm (by omega), Rg.spec_slots o hm (by omega), by rw [Rg.slL_len]; omega, ?_⟩
      unfold laws_FnSlotsHeld_j1
      dsimp only
      rw [if_neg (by simp), if_pos rfl, Rg.impl_filled o hm, Option.bind_some, Rg.impl_read o hm, Option.bind_some]
      dsimp only
      rw [if_neg (by simp), if_neg (by simp), Rg.slL_len]
      unfold laws_FnSlotsHeld_j9
      rw [if_neg (by simp), Rg.held_loop o hm (by omega), Option.bind_some]
      dsimp only
      rw [Rg.want_loop o hm (by omega), Option.bind_some, Rg.count_eq o, if_neg (by simp)]
      exact hj

theorem core_FnSlotsHeld (p0 p1 : List Int) (h0 : ∀ x ∈ p0, 0 ≤ x ∧ x < 256) (h1 : ∀ x ∈ p1, 0 ≤ x ∧ x < 256) : laws_FnSlotsHeld p0 p1 = some true := by
  obtain ⟨b, e, hb⟩ := big_ok p0 p1 h0 h1
  unfold laws_FnSlotsHeld
  rw [e, Option.bind_some]
  cases b with
  | true => rw [if_pos rfl]
  | false =>
    obtain ⟨hp0, hp1⟩ := hb rfl
    obtain ⟨r, ms, t, e1, hl⟩ := drawSlots_ok hp0
    obtain ⟨q, a1, a2, a3, a4⟩ := slots_part r ms t (by omega) p1 hp1
    rw [if_neg (by simp), e1, Option.bind_some]
    dsimp only
    rw [a1, Option.bind_some, a2, Option.bind_some, if_neg (by simp), same_self _ a3, Option.bind_some]
    exact a4
end Go.Proofs.Yteeejellpcikkaa.Ev.H5
