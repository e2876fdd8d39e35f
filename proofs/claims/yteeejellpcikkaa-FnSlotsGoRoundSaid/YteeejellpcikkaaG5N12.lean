/- Slot rings: the law on slots that go round comes to true; no condition but that bytes are bytes. -/
import Derived.Test.YteeejellpcikkaaG5N11
set_option linter.unusedVariables false
set_option linter.unusedSimpArgs false
namespace Go.Proofs.Yteeejellpcikkaa.Ev.G5
open Go
set_option linter.unusedSimpArgs false
set_option linter.unusedVariables false

namespace Rg
variable {g : Rg} {ms : List Msg}

theorem msg_at (o : g.Ok) {i : Nat} (hi : i < g.L) : (inB 2 12 (g.n : Int) && msgB (g.n : Int) ((g.tk i : Int), (g.fr i : Int), (g.to i : Int))) = true := by
  have h1 := o.n2
  have h2 := o.n12
  have h3 := o.tk i hi
  have h4 := o.fr i hi
  have h5 := o.to i hi
  have h6 := o.ne i hi
  have hw : w64 ((g.n : Int) - 1) = (g.n : Int) - 1 := w64_id (by omega) (by omega)
  simp only [msgB, Bool.and_eq_true, inB_iff, decide_eq_true_eq, hw]
  exact ⟨⟨by omega, by omega⟩, ⟨⟨⟨by omega, by omega⟩, by omega⟩, by omega⟩⟩
theorem hops_at (o : g.Ok) {i : Nat} (hi : i < g.L) : impl_HopsOfMessage ((g.n : Int), g.home) ((g.tk i : Int), (g.fr i : Int), (g.to i : Int)) = some ((g.hop i : Int), true) := by
  obtain ⟨q, h1, _, _, h4, h5⟩ := hops_both ((g.n : Int), g.home) ((g.tk i : Int), (g.fr i : Int), (g.to i : Int))
  rw [msg_at o hi] at h4
  have h5 := h5 h4
  have h6 := o.fr i hi
  rw [h1]
  obtain ⟨a, b⟩ := q
  dsimp only at h4 h5
  rw [h4, h5]
  have e : ((g.to i : Int) - (g.fr i : Int) + (g.n : Int)).toNat = g.to i + g.n - g.fr i := by omega
  rw [e]
  rfl

theorem order_loop (o : g.Ok) (hm : Fits g ms) {i : Nat} (hi : i < g.L) : laws_FnSlotsGoRound_l5 (((g.n : Int), g.home), ms) (g.ftL, true) (i : Int) ((g.tk i : Int), (g.fr i : Int), (g.to i : Int)) 0 = some (.inl ()) := by
  have hL := o.L20
  have key := iter_to (step := laws_FnSlotsGoRound_s5 (((g.n : Int), g.home), ms) (g.ftL, true) (i : Int) ((g.tk i : Int), (g.fr i : Int), (g.to i : Int))) (fun k => (k : Int)) i (r := .inl ()) (by
    intro k hk
    have j6 : laws_FnSlotsGoRound_j6 (k : Int) false = some (.inl ((k + 1 : Nat) : Int)) := by
      unfold laws_FnSlotsGoRound_j6
      rw [if_neg (by simp), w64_nat1 (by omega)]
    unfold laws_FnSlotsGoRound_s5
    dsimp only
    rw [if_pos (by simpa using hk), at_eq, hm.get k (by omega), Option.bind_some]
    dsimp only
    by_cases h : g.fr k = g.fr i
    · have := fifo o hk hi h
      rw [if_pos (by rw [h]; simp), at_eq, ftL_at (by omega), Option.bind_some, at_eq, ftL_at hi, Option.bind_some, show decide ((g.ft k : Int) ≥ (g.ft i : Int)) = false by simp; omega, j6]
    · rw [if_neg (by simp only [beq_iff_eq]; omega), j6]) (by
    unfold laws_FnSlotsGoRound_s5
    rw [if_neg (by simp)])
  exact key

theorem round_loop (o : g.Ok) (hm : Fits g ms) : laws_FnSlotsGoRound_l3 (((g.n : Int), g.home), ms) (g.reL, true) (g.ftL, true) (0, 0) = some (.inl (g.hopS g.L : Int)) := by
  have hL := o.L20
  have hn := o.n12
  have key := iter_to (step := laws_FnSlotsGoRound_s3 (((g.n : Int), g.home), ms) (g.reL, true) (g.ftL, true)) (fun i => ((g.hopS i : Int), (i : Int))) g.L (r := .inl (g.hopS g.L : Int)) (by
    intro i hi
    have h1 := tk_ft o hi
    have h2 := hopS_le o i (by omega)
    have h3 := hop_range o hi
    have h4 := (ft_eq o hi).2
    have h5 := E_le o
    unfold laws_FnSlotsGoRound_s3
    dsimp only
    rw [if_pos (by rw [hm.len]; simpa using hi), at_eq, hm.get i hi, Option.bind_some, hops_at o hi, Option.bind_some]
    dsimp only
    rw [if_neg (by simp), at_eq, ftL_at hi, Option.bind_some, if_neg (by simp; omega), at_eq, reL_at hi, Option.bind_some, w64_id (x := (g.ft i : Int) + (g.hop i : Int)) (by omega) (by omega)]
    rw [show ((((g.ft i + g.hop i : Nat) : Int)) != (g.ft i : Int) + (g.hop i : Int)) = false by simp]
    unfold laws_FnSlotsGoRound_j4
    rw [if_neg (by simp), order_loop o hm hi, Option.bind_some]
    dsimp only
    rw [w64_nat1 (by omega), w64_id (by omega) (by omega)]
    rfl) (by
    unfold laws_FnSlotsGoRound_s3
    dsimp only
    rw [if_neg (by rw [hm.len]; simp)])
  exact key

theorem last_le (o : g.Ok) : mxL g.reL ≤ ((g.T0 + 2 * g.n * g.L : Nat) : Int) := by
  refine mxL_le (by omega) fun x hx => ?_
  obtain ⟨i, hi, rfl⟩ := List.mem_map.1 hx
  have := (ft_eq o (List.mem_range.1 hi)).2
  unfold E at this
  omega
end Rg

theorem drawRead_ok {s : List Int} (hs : Bytes s) : ∃ r ms, spec_DrawReadAt s = some (r, ms) ∧ ms.length ≤ 21 := by
  unfold spec_DrawReadAt spec_DrawAreMessages
  obtain ⟨r, ms, c1, e1, hc1, hl⟩ := slottedD_ok hs (cur0 s) (by omega)
  rw [e1]
  exact ⟨_, _, rfl, hl⟩
theorem drawHops_ok {s : List Int} (hs : Bytes s) : ∃ r m, spec_DrawHopsOfMessage s = some (r, m) := by
  unfold spec_DrawHopsOfMessage
  obtain ⟨r, ms, c1, e1, hc1, hl⟩ := slottedD_ok hs (cur0 s) (by omega)
  rw [e1, Option.bind_some]
  dsimp only
  by_cases h : ms.length = 0
  · obtain ⟨v2, c2, e2, hc2, _⟩ := pick_ok hs hc1 (by omega) 3
    obtain ⟨v3, c3, e3, hc3, _⟩ := pick_ok hs hc2 (by omega) 3
    rw [if_pos (by simp [h]), e2, Option.bind_some, e3, Option.bind_some]
    exact ⟨_, _, rfl⟩
  · obtain ⟨v2, c2, e2, hc2, p1, p2, p3⟩ := pick_ok hs hc1 (by omega) (ms.length : Int)
    have hv : v2 < ms.length := by
      rcases Nat.lt_or_ge 1 ms.length with h' | h'
      · exact p2 (by omega)
      · have := p3 (by omega); omega
    rw [if_neg (by simpa using h), e2, Option.bind_some, at_getD (0, 0, 0) p1 hv, Option.bind_some]
    exact ⟨_, _, rfl⟩

theorem round_more (p1 : List Int) (hp : Bytes p1) : laws_FnSlotsGoRound_j2 p1 () = some true := by
  obtain ⟨r, m, e⟩ := drawHops_ok hp
  obtain ⟨q, h1, h2, h3, h4, h5⟩ := hops_both r m
  unfold laws_FnSlotsGoRound_j2
  rw [e, Option.bind_some]
  dsimp only
  rw [h1, Option.bind_some, h2, Option.bind_some, if_pos (by simp), if_pos (by simp)]
  cases hq : q.2 with
  | false => rw [if_pos (by rfl)]
  | true =>
    have := h3 hq
    rw [if_neg (by simp), if_pos (by simp; omega)]
    simp
    omega

theorem are_both (r : Int × Bool) (ms : List Msg) (hl : ms.length ≤ 1000000) : ∃ q, impl_AreMessages r ms = some q ∧ spec_AreMessages r ms = some q ∧ q.2 = inB 2 12 r.1 ∧ (q.2 && q.1) = slottedB r ms := by
  unfold impl_AreMessages spec_AreMessages
  rw [ring_eq, Option.bind_some, good_eq, Option.bind_some]
  cases h : inB 2 12 r.1 with
  | false =>
    refine ⟨(false, false), by rw [if_pos (by rfl)], by rw [if_pos (by rfl)], rfl, ?_⟩
    unfold slottedB
    rw [h]
    rfl
  | true =>
    refine ⟨(slottedB r ms, true), ?_, ?_, rfl, by simp⟩
    · rw [if_neg (by simp), areMessages_eq _ _ hl]
      unfold slottedB
      rw [h]
      rfl
    · rw [if_neg (by simp), slAll_eq r ms hl]
      rfl

theorem core_FnSlotsGoRound (p0 p1 : List Int) (h0 : ∀ x ∈ p0, 0 ≤ x ∧ x < 256) (h1 : ∀ x ∈ p1, 0 ≤ x ∧ x < 256) : laws_FnSlotsGoRound p0 p1 = some true := by
  obtain ⟨b, e, hb⟩ := big_ok p0 p1 h0 h1
  unfold laws_FnSlotsGoRound
  rw [e, Option.bind_some]
  cases b with
  | true => rw [if_pos rfl]
  | false =>
    obtain ⟨hp0, hp1⟩ := hb rfl
    have hj := round_more p1 hp1
    obtain ⟨r, ms, e1, hl⟩ := drawRead_ok hp0
    have hl' : ms.length ≤ 1000000 := by omega
    obtain ⟨q, a1, a2, a3, a4⟩ := are_both r ms hl'
    rw [if_neg (by simp), e1, Option.bind_some]
    dsimp only
    cases hv : slottedB r ms with
    | false =>
      have b1 : impl_ReadAt r ms = some ([], false) := by
        unfold impl_ReadAt
        rw [slotted_eq r ms hl', hv, Option.bind_some, if_pos (by rfl)]
      have b2 : spec_ReadAt r ms = some ([], false) := by
        unfold spec_ReadAt
        rw [slAll_eq r ms hl', hv, Option.bind_some, if_pos (by rfl)]
      have b3 : impl_FilledAt r ms = some ([], false) := by
        unfold impl_FilledAt
        rw [slotted_eq r ms hl', hv, Option.bind_some, if_pos (by rfl)]
      have b4 : spec_FilledAt r ms = some ([], false) := by
        unfold spec_FilledAt
        rw [slAll_eq r ms hl', hv, Option.bind_some, if_pos (by rfl)]
      have b5 : impl_LastRead r ms = some (0, false) := by
        unfold impl_LastRead
        rw [b1, Option.bind_some, greatest_eq _ (by simp)]
        rfl
      have b6 : spec_LastRead r ms = some (0, false) := by
        unfold spec_LastRead
        rw [slAll_eq r ms hl', hv, Option.bind_some, if_pos (by rfl)]
      have b7 : impl_SlotBound r ms = some (0, false) := by
        unfold impl_SlotBound
        rw [slotted_eq r ms hl', hv, Option.bind_some, if_pos (by rfl)]
      have b8 : spec_SlotBound r ms = some (0, false) := by
        unfold spec_SlotBound
        rw [slAll_eq r ms hl', hv, Option.bind_some, if_pos (by rfl)]
      have b9 : impl_LoadOfLinks r ms = some ([], false) := by
        unfold impl_LoadOfLinks
        rw [slotted_eq r ms hl', hv, Option.bind_some, if_pos (by rfl)]
      have b10 : spec_LoadOfLinks r ms = some ([], false) := by
        unfold spec_LoadOfLinks
        rw [slAll_eq r ms hl', hv, Option.bind_some, if_pos (by rfl)]
      have j1 : laws_FnSlotsGoRound_j1 p1 (r, ms) ([], false) ([], false) (0, false) (0, false) ([], false) false = some true := by
        unfold laws_FnSlotsGoRound_j1
        rw [if_neg (by simp), if_neg (by simp)]
        exact hj
      rw [b1, Option.bind_some, b2, Option.bind_some, b3, Option.bind_some, b4, Option.bind_some, b5, Option.bind_some, b6, Option.bind_some, b7, Option.bind_some, b8, Option.bind_some, b9, Option.bind_some, b10, Option.bind_some, a1, Option.bind_some, a2, Option.bind_some]
      have s := same_self ([] : List Int) (by simp)
      have hq : q.2 = true → q.1 = false := by
        intro h
        rw [h, Bool.true_and, hv] at a4
        exact a4
      simp only [s, beq_self_eq_true, bne_self_eq_false, Bool.not_true, Bool.false_eq_true, if_false, Option.bind_some, ring_eq, a3]
      rw [a3] at hq
      cases h2 : inB 2 12 r.1 with
      | true =>
        rw [hq h2]
        simp only [if_true, beq_self_eq_true, Bool.not_true, Bool.false_eq_true, if_false]
        exact j1
      | false =>
        simp only [Bool.false_eq_true, if_false, beq_self_eq_true, Bool.not_true]
        exact j1
    | true =>
      obtain ⟨o, hm, hr⟩ := rg_ok hv
      rw [hv, Bool.and_eq_true] at a4
      obtain ⟨a5, a6⟩ := a4
      generalize rgOf r ms = g at o hm hr
      subst hr
      have hL := o.L20
      have hn := o.n12
      obtain ⟨l, l1, l2, l3, l4, l5⟩ := Rg.load_ok o hm
      have s1 := same_self g.reL (by rw [Rg.reL_len]; omega)
      have s2 := same_self g.ftL (by rw [Rg.ftL_len]; omega)
      have s3 := same_self l (by omega)
      have hmost := most_eq g.reL (by rw [Rg.reL_len]; omega)
      have hsum := sum_eq (l := l) (by omega) l5
      have hle := Rg.last_le o
      have j1 : laws_FnSlotsGoRound_j1 p1 (((g.n : Int), g.home), ms) (g.reL, true) (g.ftL, true) (mxL g.reL, true) (((g.T0 + 2 * g.n * g.L : Nat) : Int), true) (l, true) false = some true := by
        unfold laws_FnSlotsGoRound_j1
        dsimp only
        rw [if_neg (by simp), if_pos rfl, Rg.round_loop o hm, Option.bind_some]
        dsimp only
        rw [hmost, Option.bind_some, if_neg (by simp), if_neg (fun h => by have := of_decide_eq_true h; omega), hsum, Option.bind_some, l4]
        unfold laws_FnSlotsGoRound_j7
        rw [if_neg (by simp)]
        exact hj
      rw [Rg.impl_read o hm, Option.bind_some, Rg.spec_read o hm, Option.bind_some, Rg.impl_filled o hm, Option.bind_some, Rg.spec_filled o hm, Option.bind_some, Rg.impl_last o hm, Option.bind_some, Rg.spec_last o hm, Option.bind_some, Rg.impl_bound o hm, Option.bind_some, Rg.spec_bound o hm, Option.bind_some, l1, Option.bind_some, l2, Option.bind_some, a1, Option.bind_some, a2, Option.bind_some]
      rw [a5] at a3
      simp only [s1, s2, s3, beq_self_eq_true, bne_self_eq_false, Bool.not_true, Bool.false_eq_true, if_false, Option.bind_some, ring_eq, a5, a6, ← a3, if_true]
      exact j1
end Go.Proofs.Yteeejellpcikkaa.Ev.G5
