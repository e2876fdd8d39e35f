/- Slot rings: slots, queues, full ticks, other names; no condition but lengths. -/
import Derived.Test.YteeejellpcikkaaH5M10
set_option linter.unusedVariables false
set_option linter.unusedSimpArgs false
namespace Go.Proofs.Yteeejellpcikkaa.Ev.H5
open Go
set_option linter.unusedSimpArgs false
set_option linter.unusedVariables false
namespace Rg
variable {g : Rg} {ms : List Msg}
theorem impl_slots (o : g.Ok) (hm : Fits g ms) {t : Nat} (ht : t ≤ 400) : impl_SlotsAt ((g.n : Int), g.home) ms (t : Int) = some (g.slL (t + 1), true) := by
  have key := iter_to (step := impl_SlotsAt_s2 (t : Int)) (fun u => g.stI ms u) (t + 1) (r := g.stI ms (t + 1)) (by
    intro u hu
    have := impl_step_ok o hm (t := u) (by omega)
    unfold stI at this ⊢
    unfold impl_SlotsAt_s2
    dsimp only
    rw [if_pos (by simp; omega), this]
    rfl) (by
    unfold stI impl_SlotsAt_s2
    dsimp only
    rw [if_neg (by simp; omega)])
  unfold impl_SlotsAt
  rw [slotted_eq _ _ (ms_len o hm), slotted_of o hm, Option.bind_some, if_neg (by simp), slotTick_eq, Option.bind_some, show inB 0 400 (t : Int) = true by rw [inB_iff]; omega]
  unfold impl_SlotsAt_j1 impl_SlotsAt_l2
  rw [if_neg (by simp), impl_new_ok o hm, Option.bind_some]
  unfold stI at key ⊢
  dsimp only at key ⊢
  rw [key]
  rfl
theorem spec_slots (o : g.Ok) (hm : Fits g ms) {t : Nat} (ht : t ≤ 400) : spec_SlotsAt ((g.n : Int), g.home) ms (t : Int) = some (g.slL (t + 1), true) := by
  unfold spec_SlotsAt
  rw [slAll_eq _ _ (ms_len o hm), slotted_of o hm, Option.bind_some, if_neg (by simp), l1In_eq, Option.bind_some, show inB 0 400 (t : Int) = true by rw [inB_iff]; omega]
  unfold spec_SlotsAt_j1
  rw [if_neg (by simp), w64_nat1 (by omega), spec_end_ok o hm (by omega)]
  rfl

/-! #### queues -/
noncomputable def qIn (g : Rg) (s : Int) (t : Nat) (i : Nat) : Bool := decide ((g.fr i : Int) = s ∧ g.tk i ≤ t ∧ t < g.ft i)
noncomputable def qL (g : Rg) (s : Int) (t n : Nat) : List Int := ((List.range n).filter (g.qIn s t)).map fun (i : Nat) => (i : Int)
theorem qL_succ (s : Int) (t n : Nat) : g.qL s t (n + 1) = g.qL s t n ++ (if g.qIn s t n then [(n : Int)] else []) := by
  unfold qL
  rw [List.range_succ, List.filter_append, List.map_append]
  cases h : g.qIn s t n <;> simp [h]
theorem qL_len (s : Int) (t n : Nat) : (g.qL s t n).length ≤ n := by
  unfold qL
  rw [List.length_map]
  exact Nat.le_trans (List.length_filter_le _ _) (by simp)

theorem impl_queue_loop (o : g.Ok) (hm : Fits g ms) (s : Int) (t : Nat) : impl_QueueAt_l2 ms s (t : Int) (g.ftL, true) ([], 0) = some (g.qL s t g.L) := by
  have hL := o.L20
  have key := iter_to (step := impl_QueueAt_s2 ms s (t : Int) (g.ftL, true)) (fun i => (g.qL s t i, (i : Int))) g.L (r := g.qL s t g.L) (by
    intro i hi
    have hl := qL_len (g := g) s t i
    have j4f : impl_QueueAt_j4 (g.qL s t i) (i : Int) false = some (.inl (g.qL s t i, ((i + 1 : Nat) : Int))) := by
      simp [impl_QueueAt_j4, impl_QueueAt_j3, w64_nat1 (show i ≤ 4611686018427387904 by omega)]
    have j4t : impl_QueueAt_j4 (g.qL s t i) (i : Int) true = some (.inl (g.qL s t i ++ [(i : Int)], ((i + 1 : Nat) : Int))) := by
      unfold impl_QueueAt_j4
      rw [if_pos rfl, app_ok (by simp; omega), Option.bind_some]
      simp [impl_QueueAt_j3, w64_nat1 (show i ≤ 4611686018427387904 by omega)]
    unfold impl_QueueAt_s2
    dsimp only
    rw [if_pos (by rw [hm.len]; simpa using hi), at_eq, hm.get i hi, Option.bind_some, qL_succ]
    dsimp only
    by_cases h1 : (g.fr i : Int) = s
    · rw [if_pos (by simpa using h1)]
      by_cases h2 : g.tk i ≤ t
      · rw [if_pos (by simpa using h2), at_eq, ftL_at hi, Option.bind_some]
        by_cases h3 : t < g.ft i
        · rw [show decide ((g.ft i : Int) > (t : Int)) = true by simp; omega, j4t, show g.qIn s t i = true from decide_eq_true ⟨h1, h2, h3⟩, if_pos rfl]
        · rw [show decide ((g.ft i : Int) > (t : Int)) = false by simp; omega, j4f, show g.qIn s t i = false from decide_eq_false fun h => h3 h.2.2]; simp
      · rw [if_neg (by simpa using h2), j4f, show g.qIn s t i = false from decide_eq_false fun h => h2 h.2.1]; simp
    · rw [if_neg (by simpa using h1), j4f, show g.qIn s t i = false from decide_eq_false fun h => h1 h.1]; simp) (by
    unfold impl_QueueAt_s2
    dsimp only
    rw [if_neg (by rw [hm.len]; simp)])
  exact key
theorem spec_queue_loop (o : g.Ok) (hm : Fits g ms) (s : Int) (t : Nat) : spec_QueueAt_l2 ms s (t : Int) (g.stS ms (t + 1)) ([], 0) = some (g.qL s t g.L) := by
  have hL := o.L20
  have key := iter_to (step := spec_QueueAt_s2 ms s (t : Int) (g.stS ms (t + 1))) (fun i => (g.qL s t i, (i : Int))) g.L (r := g.qL s t g.L) (by
    intro i hi
    have hl := qL_len (g := g) s t i
    have j4f : spec_QueueAt_j4 (g.qL s t i) (i : Int) false = some (.inl (g.qL s t i, ((i + 1 : Nat) : Int))) := by
      simp [spec_QueueAt_j4, spec_QueueAt_j3, w64_nat1 (show i ≤ 4611686018427387904 by omega)]
    have j4t : spec_QueueAt_j4 (g.qL s t i) (i : Int) true = some (.inl (g.qL s t i ++ [(i : Int)], ((i + 1 : Nat) : Int))) := by
      unfold spec_QueueAt_j4
      rw [if_pos rfl, app_ok (by simp; omega), Option.bind_some]
      simp [spec_QueueAt_j3, w64_nat1 (show i ≤ 4611686018427387904 by omega)]
    unfold spec_QueueAt_s2
    dsimp only
    rw [if_pos (by rw [hm.len]; simpa using hi), at_eq, hm.get i hi, Option.bind_some, qL_succ]
    dsimp only
    by_cases h1 : (g.fr i : Int) = s
    · rw [if_pos (by simpa using h1)]
      by_cases h2 : g.tk i ≤ t
      · have hv : (g.stS ms (t + 1)).2.2.2.2.1[i]? = some (fV (g.fl (t + 1)) i) := mapr_get hi
        rw [if_pos (by simpa using h2), at_eq, hv, Option.bind_some]
        have hn : fV (g.fl (t + 1)) i < 0 ↔ t < g.ft i := by
          rw [fV_neg o, fl_iff o hi]
          split
          · simp; omega
          · simp; omega
        by_cases h3 : t < g.ft i
        · rw [show decide (fV (g.fl (t + 1)) i < 0) = true from decide_eq_true (hn.2 h3), j4t, show g.qIn s t i = true from decide_eq_true ⟨h1, h2, h3⟩, if_pos rfl]
        · rw [show decide (fV (g.fl (t + 1)) i < 0) = false from decide_eq_false fun h => h3 (hn.1 h), j4f, show g.qIn s t i = false from decide_eq_false fun h => h3 h.2.2]; simp
      · rw [if_neg (by simpa using h2), j4f, show g.qIn s t i = false from decide_eq_false fun h => h2 h.2.1]; simp
    · rw [if_neg (by simpa using h1), j4f, show g.qIn s t i = false from decide_eq_false fun h => h1 h.1]; simp) (by
    unfold spec_QueueAt_s2
    dsimp only
    rw [if_neg (by rw [hm.len]; simp)])
  exact key

theorem impl_queue (o : g.Ok) (hm : Fits g ms) (s tk : Int) : impl_QueueAt ((g.n : Int), g.home) ms s tk = some (if inB 0 ((g.n : Int) - 1) s && inB 0 400 tk then (g.qL s tk.toNat g.L, true) else ([], false)) := by
  have h1 := o.n2
  have h2 := o.n12
  unfold impl_QueueAt
  rw [impl_filled o hm, Option.bind_some, if_neg (by simp), within_eq, Option.bind_some, w64_id (by dsimp only; omega) (by dsimp only; omega)]
  cases c1 : inB 0 ((g.n : Int) - 1) s with
  | false => simp [impl_QueueAt_j1]
  | true =>
    rw [if_neg (by simp), slotTick_eq, Option.bind_some]
    cases c2 : inB 0 400 tk with
    | false => simp [impl_QueueAt_j1]
    | true =>
      rw [inB_iff] at c2
      obtain ⟨t, rfl⟩ : ∃ t : Nat, tk = (t : Int) := ⟨tk.toNat, by omega⟩
      unfold impl_QueueAt_j1
      rw [if_neg (by simp), impl_queue_loop o hm]
      simp
theorem spec_queue (o : g.Ok) (hm : Fits g ms) (s tk : Int) : spec_QueueAt ((g.n : Int), g.home) ms s tk = some (if inB 0 ((g.n : Int) - 1) s && inB 0 400 tk then (g.qL s tk.toNat g.L, true) else ([], false)) := by
  have h1 := o.n2
  have h2 := o.n12
  unfold spec_QueueAt
  rw [slAll_eq _ _ (ms_len o hm), slotted_of o hm, Option.bind_some, if_neg (by simp), l1In_eq, Option.bind_some, w64_id (by dsimp only; omega) (by dsimp only; omega)]
  cases c1 : inB 0 ((g.n : Int) - 1) s with
  | false => simp [spec_QueueAt_j1]
  | true =>
    rw [if_neg (by simp), l1In_eq, Option.bind_some]
    cases c2 : inB 0 400 tk with
    | false => simp [spec_QueueAt_j1]
    | true =>
      rw [inB_iff] at c2
      obtain ⟨t, rfl⟩ : ∃ t : Nat, tk = (t : Int) := ⟨tk.toNat, by omega⟩
      unfold spec_QueueAt_j1
      rw [if_neg (by simp), w64_nat1 (by omega), spec_end_ok o hm (by omega), Option.bind_some, spec_queue_loop o hm]
      simp

/-! #### full ticks -/
noncomputable def fullB (g : Rg) (t : Nat) : Bool := !decide ((0 : Int) ∈ g.slL (t + 1))
noncomputable def fullN (g : Rg) (T : Nat) : Nat := (List.range T).countP g.fullB
theorem countP_range_succ (p : Nat → Bool) (n : Nat) : (List.range (n + 1)).countP p = (List.range n).countP p + (if p n then 1 else 0) := by
  rw [List.range_succ, List.countP_append]
  simp [List.countP_cons]
theorem countP_range_le (p : Nat → Bool) (n : Nat) : (List.range n).countP p ≤ n := by
  have := List.countP_le_length (p := p) (l := List.range n)
  rwa [List.length_range] at this

theorem impl_full (o : g.Ok) (hm : Fits g ms) (tk : Int) : impl_FullTicks ((g.n : Int), g.home) ms tk = some (if inB 0 400 tk then ((g.fullN tk.toNat : Int), true) else (0, false)) := by
  have h2 := o.n12
  unfold impl_FullTicks
  rw [slotted_eq _ _ (ms_len o hm), slotted_of o hm, Option.bind_some, if_neg (by simp), slotTick_eq, Option.bind_some]
  cases c2 : inB 0 400 tk with
  | false => simp [impl_FullTicks_j1]
  | true =>
    rw [inB_iff] at c2
    obtain ⟨T, rfl⟩ : ∃ t : Nat, tk = (t : Int) := ⟨tk.toNat, by omega⟩
    have key := iter_to (step := impl_FullTicks_s2 (T : Int)) (fun t => ((g.n : Int), g.home, ms, (t : Int), g.slL t, g.flL t, g.rdL t, (g.fullN t : Int), (t : Int))) T (r := (g.fullN T : Int)) (by
      intro t ht
      have h1 : g.fullN t ≤ t := countP_range_le g.fullB t
      have := impl_step_ok o hm (t := t) (by omega)
      unfold stI at this
      unfold impl_FullTicks_s2
      dsimp only
      rw [if_pos (by simpa using ht), this, Option.bind_some]
      dsimp only
      rw [contains_eq _ _ (by rw [slL_len]; omega), Option.bind_some]
      have e : g.fullN (t + 1) = g.fullN t + (if g.fullB t then 1 else 0) := countP_range_succ _ _
      cases hb : g.fullB t with
      | true =>
        have hb' : (!decide ((0 : Int) ∈ g.slL (t + 1))) = true := hb
        rw [if_pos hb']
        rw [hb, if_pos rfl] at e
        unfold impl_FullTicks_j3
        dsimp only
        rw [w64_nat1 (by omega), w64_nat1 (by omega), ← e]
      | false =>
        have hb' : (!decide ((0 : Int) ∈ g.slL (t + 1))) = false := hb
        rw [if_neg (by rw [hb']; simp)]
        rw [hb, if_neg (by simp)] at e
        have e : g.fullN (t + 1) = g.fullN t := e
        unfold impl_FullTicks_j3
        dsimp only
        rw [w64_nat1 (by omega), e]) (by
      unfold impl_FullTicks_s2
      dsimp only
      rw [if_neg (by simp)])
    unfold impl_FullTicks_j1 impl_FullTicks_l2
    rw [if_neg (by simp), impl_new_ok o hm, Option.bind_some]
    unfold stI
    have e0 : ((g.fullN 0 : Nat) : Int) = 0 := rfl
    rw [e0] at key
    dsimp only at key ⊢
    have e1 : ((0 : Nat) : Int) = 0 := rfl
    rw [e1] at key
    rw [e1, key]
    simp
theorem spec_full (o : g.Ok) (hm : Fits g ms) (tk : Int) : spec_FullTicks ((g.n : Int), g.home) ms tk = some (if inB 0 400 tk then ((g.fullN tk.toNat : Int), true) else (0, false)) := by
  have h2 := o.n12
  unfold spec_FullTicks
  rw [slAll_eq _ _ (ms_len o hm), slotted_of o hm, Option.bind_some, if_neg (by simp), l1In_eq, Option.bind_some]
  cases c2 : inB 0 400 tk with
  | false => simp [spec_FullTicks_j1]
  | true =>
    rw [inB_iff] at c2
    obtain ⟨T, rfl⟩ : ∃ t : Nat, tk = (t : Int) := ⟨tk.toNat, by omega⟩
    have key := iter_to (step := spec_FullTicks_s2 (T : Int)) (fun t => ((g.n : Int), g.home, ms, g.slL t, g.flL t, g.rdL t, (g.fullN t : Int), (t : Int))) T (r := (g.fullN T : Int)) (by
      intro t ht
      have h1 : g.fullN t ≤ t := countP_range_le g.fullB t
      have := spec_tick_ok o hm (t := t) (by omega)
      unfold stS at this
      unfold spec_FullTicks_s2
      dsimp only
      rw [if_pos (by simpa using ht), this, Option.bind_some]
      dsimp only
      rw [has_eq _ _ (by rw [slL_len]; omega), Option.bind_some]
      have e : g.fullN (t + 1) = g.fullN t + (if g.fullB t then 1 else 0) := countP_range_succ _ _
      cases hb : g.fullB t with
      | true =>
        have hb' : (!decide ((0 : Int) ∈ g.slL (t + 1))) = true := hb
        rw [if_pos hb']
        rw [hb, if_pos rfl] at e
        unfold spec_FullTicks_j3
        dsimp only
        rw [w64_nat1 (by omega), w64_nat1 (by omega), ← e]
      | false =>
        have hb' : (!decide ((0 : Int) ∈ g.slL (t + 1))) = false := hb
        rw [if_neg (by rw [hb']; simp)]
        rw [hb, if_neg (by simp)] at e
        have e : g.fullN (t + 1) = g.fullN t := e
        unfold spec_FullTicks_j3
        dsimp only
        rw [w64_nat1 (by omega), e]) (by
      unfold spec_FullTicks_s2
      dsimp only
      rw [if_neg (by simp)])
    unfold spec_FullTicks_j1 spec_FullTicks_l2
    rw [if_neg (by simp), spec_new_ok o hm, Option.bind_some]
    unfold stS
    have e0 : ((g.fullN 0 : Nat) : Int) = 0 := rfl
    rw [e0] at key
    dsimp only at key ⊢
    have e1 : ((0 : Nat) : Int) = 0 := rfl
    rw [e1] at key
    rw [key]
    simp
end Rg
theorem slotTickD_ok {s : List Int} (hs : Bytes s) {c : List Int × Int × Int} {k : Int} (hc : Cur s c k) (hk : k ≤ 1099511620000) : ∃ t c', spec_l1Cur_slotTick c = some (t, c') ∧ Cur s c' (k + 10) := by
  unfold spec_l1Cur_slotTick
  obtain ⟨v1, c1, e1, hc1⟩ := one_ok hs hc (by omega) 12
  rw [e1, Option.bind_some]
  dsimp only
  split
  · obtain ⟨v2, c2, e2, hc2, _⟩ := among_ok hs hc1 (by omega) [(-1 : Int), 0, 400, 401] (by simp) (by simp)
    rw [e2, Option.bind_some]
    exact ⟨_, _, rfl, hc2.mono (by omega)⟩
  · obtain ⟨v2, c2, e2, hc2, _⟩ := pick_ok hs hc1 (by omega) 30
    rw [e2, Option.bind_some]
    exact ⟨_, _, rfl, hc2.mono (by omega)⟩
theorem drawSlots_ok {s : List Int} (hs : Bytes s) : ∃ r ms t, spec_DrawSlotsAt s = some (r, ms, t) ∧ ms.length ≤ 21 := by
  unfold spec_DrawSlotsAt
  obtain ⟨r, ms, c1, e1, hc1, hl⟩ := slottedD_ok hs (cur0 s) (by omega)
  obtain ⟨t, c2, e2, hc2⟩ := slotTickD_ok hs hc1 (by omega)
  rw [e1, Option.bind_some]
  dsimp only
  rw [e2, Option.bind_some]
  exact ⟨_, _, _, rfl, hl⟩
theorem drawFull_ok {s : List Int} (hs : Bytes s) : ∃ r ms t, spec_DrawFullTicks s = some (r, ms, t) ∧ ms.length ≤ 21 := by
  obtain ⟨r, ms, t, e, hl⟩ := drawSlots_ok hs
  unfold spec_DrawFullTicks
  rw [e, Option.bind_some]
  exact ⟨_, _, _, rfl, hl⟩
theorem drawQueue_ok {s : List Int} (hs : Bytes s) : ∃ r ms x t, spec_DrawQueueAt s = some (r, ms, x, t) ∧ ms.length ≤ 21 := by
  unfold spec_DrawQueueAt
  obtain ⟨r, ms, c1, e1, hc1, hl⟩ := slottedD_ok hs (cur0 s) (by omega)
  obtain ⟨v2, c2, e2, hc2, _⟩ := pick_ok hs hc1 (by omega) 6
  obtain ⟨v3, c3, e3, hc3, _⟩ := pick_ok hs hc2 (by omega) 9
  obtain ⟨t, c4, e4, hc4⟩ := slotTickD_ok hs hc3 (by omega)
  rw [e1, Option.bind_some]
  dsimp only
  rw [e2, Option.bind_some]
  dsimp only
  rw [e3, Option.bind_some]
  dsimp only
  rw [e4, Option.bind_some]
  exact ⟨_, _, _, _, rfl, hl⟩
theorem drawTurn_ok {s : List Int} (hs : Bytes s) : ∃ r ms x, spec_DrawTurnMessages s = some (r, ms, x) ∧ ms.length ≤ 21 := by
  unfold spec_DrawTurnMessages
  obtain ⟨r, ms, c1, e1, hc1, hl⟩ := slottedD_ok hs (cur0 s) (by omega)
  obtain ⟨v2, c2, e2, hc2, _⟩ := pick_ok hs hc1 (by omega) 6
  obtain ⟨v3, c3, e3, hc3, _⟩ := pick_ok hs hc2 (by omega) 9
  rw [e1, Option.bind_some]
  dsimp only
  rw [e2, Option.bind_some]
  dsimp only
  rw [e3, Option.bind_some]
  exact ⟨_, _, _, rfl, hl⟩

theorem msame_self (a : List Msg) (ha : a.length ≤ 1000000) : laws_kMessages a a = some true := by
  have key := iter_to (step := laws_kMessages_s1 a a) (fun i => (i : Int)) a.length (r := .inl ()) (by
    intro i hi
    unfold laws_kMessages_s1
    rw [if_pos (by simpa using hi), at_some hi, Option.bind_some, Option.bind_some, if_neg (by simp), w64_nat1 (by omega)]) (by
    unfold laws_kMessages_s1
    rw [if_neg (by simp)])
  unfold laws_kMessages laws_kMessages_l1
  rw [if_neg (by simp)]
  have e0 : ((0 : Nat) : Int) = 0 := rfl
  rw [e0] at key
  rw [key]
  rfl

/-! #### other names -/
def tf (n b : Int) (m : Msg) : Msg := (m.1, Int.tmod (w64 (m.2.1 + b)) n, Int.tmod (w64 (m.2.2 + b)) n)

theorem impl_turned_eq (n b : Int) (ms : List Msg) (hn : n ≠ 0) (hl : ms.length ≤ 1000000) : impl_turnedMessages n ms b = some (ms.map (tf n b)) := by
  have key := iter_to (step := impl_turnedMessages_s1 n ms b) (fun i => ((ms.take i).map (tf n b), (i : Int))) ms.length (r := ms.map (tf n b)) (by
    intro i hi
    unfold impl_turnedMessages_s1
    dsimp only
    rw [if_pos (by simpa using hi), at_some hi, Option.bind_some, nz_ok hn, Option.bind_some, app_ok (by simp; omega), Option.bind_some, w64_nat1 (by omega), List.take_succ_eq_append_getElem hi, List.map_append]
    rfl) (by
    unfold impl_turnedMessages_s1
    dsimp only
    rw [if_neg (by simp), List.take_length])
  unfold impl_turnedMessages impl_turnedMessages_l1
  have e0 : ((0 : Nat) : Int) = 0 := rfl
  rw [e0] at key
  rw [show (([] : List Msg), (0 : Int)) = ((ms.take 0).map (tf n b), (0 : Int)) by simp, key]
  rfl
theorem spec_turned_eq (r : Int × Bool) (b : Int) (ms : List Msg) (hn : r.1 ≠ 0) (hl : ms.length ≤ 1000000) : spec_TurnMessages_l2 r ms b ([], 0) = some (ms.map (tf r.1 b)) := by
  have key := iter_to (step := spec_TurnMessages_s2 r ms b) (fun i => ((ms.take i).map (tf r.1 b), (i : Int))) ms.length (r := ms.map (tf r.1 b)) (by
    intro i hi
    unfold spec_TurnMessages_s2
    dsimp only
    rw [if_pos (by simpa using hi), at_some hi, Option.bind_some, nz_ok hn, Option.bind_some, app_ok (by simp; omega), Option.bind_some, w64_nat1 (by omega), List.take_succ_eq_append_getElem hi, List.map_append]
    rfl) (by
    unfold spec_TurnMessages_s2
    dsimp only
    rw [if_neg (by simp), List.take_length])
  have e0 : ((0 : Nat) : Int) = 0 := rfl
  rw [e0] at key
  exact key

namespace Rg
variable {g : Rg} {ms : List Msg}

def turn (g : Rg) (b : Nat) : Rg := { g with fr := fun i => (g.fr i + b) % g.n, to := fun i => (g.to i + b) % g.n }

theorem tn_inj {x y b n : Nat} (hx : x < n) (hy : y < n) (hb : b < n) : (x + b) % n = (y + b) % n ↔ x = y := by
  rw [md (by omega), md (by omega)]
  constructor
  · intro h; split at h <;> split at h <;> omega
  · rintro rfl; rfl
theorem turn_ok (o : g.Ok) {b : Nat} (hb : b < g.n) : (g.turn b).Ok := by
  have hn := o.n2
  refine ⟨o.n2, o.n12, o.L20, o.tk, fun i _ => Nat.mod_lt _ (by show 0 < g.n; omega), fun i _ => Nat.mod_lt _ (by show 0 < g.n; omega), fun i hi h => ?_, o.mono⟩
  exact o.ne i hi ((tn_inj (o.fr i hi) (o.to i hi) hb).1 h)
theorem turn_hop (o : g.Ok) {b : Nat} (hb : b < g.n) {i : Nat} (hi : i < g.L) : (g.turn b).hop i = g.hop i := by
  have h1 := o.fr i hi
  have h2 := o.to i hi
  rw [hop_eq (turn_ok o hb) hi, hop_eq o hi]
  show (if (g.fr i + b) % g.n ≤ (g.to i + b) % g.n then (g.to i + b) % g.n - (g.fr i + b) % g.n else (g.to i + b) % g.n + g.n - (g.fr i + b) % g.n) = _
  rw [md (y := g.fr i + b) (by omega), md (y := g.to i + b) (by omega)]
  split <;> split <;> split <;> split <;> omega
theorem turn_stay (o : g.Ok) {b : Nat} (hb : b < g.n) {i : Nat} (hi : i < g.L) : (g.turn b).stay i = g.stay i := by
  unfold stay
  rw [turn_hop o hb hi]
  rfl
theorem turn_pos (o : g.Ok) {b : Nat} (hb : b < g.n) {x t : Nat} (hx : x < g.n) : (g.turn b).pos ((x + b) % g.n) t = (g.pos x t + b) % g.n := by
  have hn := o.n2
  have h1 := pos_at o (t := t) hx
  have h2 : ((g.pos x t + b) % g.n + t) % g.n = (x + b) % g.n := by
    rw [Nat.mod_add_mod, show g.pos x t + b + t = g.pos x t + t + b by omega, ← Nat.mod_add_mod, h1]
  have h3 := pos_inv o (k := (g.pos x t + b) % g.n) (t := t) (Nat.mod_lt _ (by omega))
  rw [h2] at h3
  exact h3
theorem turn_slot (o : g.Ok) {b : Nat} (hb : b < g.n) {k f x : Nat} (hx : x < g.n) : ((k + b) % g.n + f) % g.n = (x + b) % g.n ↔ (k + f) % g.n = x := by
  have hn := o.n2
  have h : ((k + b) % g.n + f) % g.n = ((k + f) % g.n + b) % g.n := by
    rw [Nat.mod_add_mod, Nat.mod_add_mod]; congr 1; omega
  rw [h, tn_inj (Nat.mod_lt _ (by omega)) hx hb]

theorem turn_fl (o : g.Ok) {b : Nat} (hb : b < g.n) : ∀ t i, (g.turn b).fl t i = g.fl t i := by
  intro t
  induction t with
  | zero => intro i; rfl
  | succ t ih =>
    intro i
    have hF : (g.turn b).fl t = g.fl t := funext ih
    show (g.turn b).nxt ((g.turn b).fl t) t i = g.nxt (g.fl t) t i
    rw [hF]
    cases h0 : g.fl t i with
    | some f => rw [nxt_old h0, nxt_old h0]
    | none =>
      have hw : ∀ j, i < g.L → ((g.turn b).Wt (g.fl t) ((g.turn b).fr i) t j ↔ g.Wt (g.fl t) (g.fr i) t j) := by
        intro j hi
        constructor
        · rintro ⟨h1, h2, h3, h4⟩; exact ⟨h1, (tn_inj (o.fr j h1) (o.fr i hi) hb).1 h2, h3, h4⟩
        · rintro ⟨h1, h2, h3, h4⟩; exact ⟨h1, (tn_inj (o.fr j h1) (o.fr i hi) hb).2 h2, h3, h4⟩
      have hn : (g.turn b).Nx (g.fl t) t i ↔ g.Nx (g.fl t) t i := by
        constructor
        · rintro ⟨h1, h2⟩
          have hi : i < g.L := h1.1
          exact ⟨(hw i hi).1 h1, fun j hj h => h2 j hj ((hw j hi).2 h)⟩
        · rintro ⟨h1, h2⟩
          have hi : i < g.L := h1.1
          exact ⟨(hw i hi).2 h1, fun j hj h => h2 j hj ((hw j hi).1 h)⟩
      have hbl : i < g.L → ((g.turn b).Bl (g.fl t) ((g.turn b).pos ((g.turn b).fr i) t) t ↔ g.Bl (g.fl t) (g.pos (g.fr i) t) t) := by
        intro hi
        have hp : (g.turn b).pos ((g.turn b).fr i) t = (g.pos (g.fr i) t + b) % g.n := turn_pos o hb (o.fr i hi)
        rw [hp]
        constructor
        · rintro ⟨j, f, h1, h2, h3, h4⟩
          exact ⟨j, f, h1, h2, (turn_slot o hb (o.fr j h1)).1 h3, by rwa [turn_stay o hb h1] at h4⟩
        · rintro ⟨j, f, h1, h2, h3, h4⟩
          exact ⟨j, f, h1, h2, (turn_slot o hb (o.fr j h1)).2 h3, by rwa [turn_stay o hb h1]⟩
      by_cases hc : g.Nx (g.fl t) t i ∧ ¬ g.Bl (g.fl t) (g.pos (g.fr i) t) t
      · have hi := hc.1.1.1
        rw [nxt_new h0 hc.1 hc.2, nxt_new h0 (hn.2 hc.1) (fun h => hc.2 ((hbl hi).1 h))]
      · rw [nxt_not h0 hc, nxt_not h0 fun ⟨h1, h2⟩ => hc ⟨hn.1 h1, fun h => h2 ((hbl h1.1.1).2 h)⟩]
theorem turn_ft (o : g.Ok) {b : Nat} (hb : b < g.n) : (g.turn b).ftL = g.ftL ∧ (g.turn b).reL = g.reL := by
  have h : ∀ i, (g.turn b).ft i = g.ft i := by
    intro i
    unfold ft
    rw [turn_fl o hb]
    rfl
  refine ⟨mapr_eq fun i _ => by rw [h], mapr_eq fun i hi => by rw [h, turn_hop o hb hi]⟩

theorem turn_fits (o : g.Ok) (hm : Fits g ms) {b : Nat} (hb : b < g.n) : Fits (g.turn b) (ms.map (tf (g.n : Int) (b : Int))) := by
  have hn := o.n12
  refine ⟨by rw [List.length_map]; exact hm.len, fun i hi => ?_⟩
  have hi : i < g.L := hi
  have h1 := o.fr i hi
  have h2 := o.to i hi
  rw [List.getElem?_map, hm.get i hi]
  show some (tf (g.n : Int) (b : Int) ((g.tk i : Int), (g.fr i : Int), (g.to i : Int))) = some ((g.tk i : Int), (((g.fr i + b) % g.n : Nat) : Int), (((g.to i + b) % g.n : Nat) : Int))
  unfold tf
  dsimp only
  rw [w64_id (by omega) (by omega), w64_id (by omega) (by omega)]
  rfl
end Rg
end Go.Proofs.Yteeejellpcikkaa.Ev.H5
