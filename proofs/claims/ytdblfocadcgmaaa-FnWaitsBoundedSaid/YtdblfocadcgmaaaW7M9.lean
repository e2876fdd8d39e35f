/- Token rings: no frame waits longer than its bound: the law holds for all bytes. -/
import Derived.Test.YtdblfocadcgmaaaW7M8
set_option linter.unusedVariables false
set_option linter.unusedSimpArgs false
namespace Go.Proofs.Ytdblfocadcgmaaa.Ev.W7
open Go
set_option linter.unusedSimpArgs false
set_option linter.unusedVariables false

theorem token_any (r : Int × Int × Int) (ms : List Call) (t : Int) (hl : ms.length ≤ 1000000) : ∃ v, impl_TokenAt r ms t = some v ∧ spec_TokenAt r ms t = some v := by
  cases hv : calledB r ms with
  | false =>
    refine ⟨((0 : Int), false), ?_, ?_⟩
    · unfold impl_TokenAt; rw [called_eq _ _ hl, hv, Option.bind_some, if_pos (by rfl)]; rfl
    · unfold spec_TokenAt; rw [tkCalls_eq _ _ hl, hv, Option.bind_some, if_pos (by rfl)]; rfl
  | true =>
    obtain ⟨o, hf, e⟩ := tk_ok hv
    cases ht : inB 0 1000 t with
    | false =>
      refine ⟨((0 : Int), false), ?_, ?_⟩
      · unfold impl_TokenAt; rw [called_eq _ _ hl, hv, Option.bind_some, if_neg (by simp), tick_eq, ht, Option.bind_some]; rfl
      · unfold spec_TokenAt; rw [tkCalls_eq _ _ hl, hv, Option.bind_some, if_neg (by simp), l1In_eq, ht, Option.bind_some]; rfl
    | true =>
      rw [inB_iff] at ht
      obtain ⟨n, rfl⟩ : ∃ n : Nat, t = n := ⟨t.toNat, by omega⟩
      have := Tk.token_same o hf (t := n) (by omega)
      rw [← e] at this
      exact this
theorem backlog_any (r : Int × Int × Int) (ms : List Call) (t : Int) (hl : ms.length ≤ 1000000) : ∃ l f, impl_BacklogAt r ms t = some (l, f) ∧ spec_BacklogAt r ms t = some (l, f) ∧ l.length ≤ 12 := by
  cases hv : calledB r ms with
  | false =>
    refine ⟨[], false, ?_, ?_, by simp⟩
    · unfold impl_BacklogAt impl_SentAt; rw [called_eq _ _ hl, hv, Option.bind_some, if_pos (by rfl), Option.bind_some, if_pos (by rfl)]; rfl
    · unfold spec_BacklogAt; rw [tkCalls_eq _ _ hl, hv, Option.bind_some, if_pos (by rfl)]; rfl
  | true =>
    obtain ⟨o, hf, e⟩ := tk_ok hv
    cases ht : inB 0 1000 t with
    | false =>
      refine ⟨[], false, ?_, ?_, by simp⟩
      · have := Tk.sent_ok o hf
        rw [← e] at this
        unfold impl_BacklogAt; rw [this, Option.bind_some, if_neg (by simp), tick_eq, ht, Option.bind_some]; rfl
      · unfold spec_BacklogAt; rw [tkCalls_eq _ _ hl, hv, Option.bind_some, if_neg (by simp), l1In_eq, ht, Option.bind_some]; rfl
    | true =>
      rw [inB_iff] at ht
      obtain ⟨n, rfl⟩ : ∃ n : Nat, t = n := ⟨t.toNat, by omega⟩
      have h1 := Tk.impl_backlog_ok o hf (t := n) (by omega)
      have h2 := Tk.spec_backlog_ok o hf (t := n) (by omega)
      rw [← e] at h1 h2
      exact ⟨_, _, h1, h2, by rw [Tk.bl_len]; exact o.S12⟩

theorem wb_j4 {p1 : List Int} (hp : Bytes p1) : laws_FnWaitsBounded_j4 p1 () = some true := by
  obtain ⟨r, ms, t, e1, hl⟩ := draw_tick hp
  obtain ⟨v, a1, a2⟩ := token_any r ms t (by omega)
  obtain ⟨l, f, a3, a4, hb⟩ := backlog_any r ms t (by omega)
  obtain ⟨w, p, e2⟩ := draw_bound hp
  obtain ⟨b, a5, a6⟩ := wait_same w p
  obtain ⟨x, e3⟩ := draw_ring hp
  obtain ⟨A, B, F, a7, a8, a9, a10, hle⟩ := rounds_same x
  unfold laws_FnWaitsBounded_j4 spec_DrawBacklogAt spec_DrawLongestRound
  rw [e1, Option.bind_some]
  dsimp only
  rw [a1, Option.bind_some, a2, Option.bind_some, Option.bind_some, Option.bind_some]
  dsimp only
  rw [a3, Option.bind_some, a4, Option.bind_some, e2, Option.bind_some]
  dsimp only
  rw [a5, Option.bind_some, a6, Option.bind_some, e3, Option.bind_some, Option.bind_some, a7, Option.bind_some, a8, Option.bind_some, a9, Option.bind_some, a10, Option.bind_some]
  dsimp only
  rw [same_self l (by omega)]
  simp [hle]

theorem wb_j2 {p1 : List Int} (hp : Bytes p1) : laws_FnWaitsBounded_j2 p1 () = some true := by
  have h4 := wb_j4 hp
  obtain ⟨r, p, e1⟩ := draw_full hp
  obtain ⟨l, f, a1, a2, hl, hfull⟩ := full_same r p
  obtain ⟨r2, p2, e2⟩ := draw_bound hp
  obtain ⟨a3, a4⟩ := shares_same r2 p2
  have j5f : laws_FnWaitsBounded_j5 p1 (r, p) (l, f) false = some true := by
    unfold laws_FnWaitsBounded_j5; rw [if_neg (by simp), h4]
  have hlen : ∀ b : Bool, (if b && true then (List.replicate r2.1.toNat (w64 (p2 * r2.2.1)), true) else (([] : List Int), false)).1.length ≤ r2.1.toNat := by
    intro b; cases b <;> simp
  unfold laws_FnWaitsBounded_j2 spec_DrawFullShares
  rw [e1, Option.bind_some]
  dsimp only
  rw [a1, Option.bind_some, a2, Option.bind_some, e2, Option.bind_some, Option.bind_some]
  dsimp only
  rw [a3, Option.bind_some, a4, Option.bind_some]
  have hq : laws_zSame (if ringB r2 && inB 0 100 p2 then (List.replicate r2.1.toNat (w64 (p2 * r2.2.1)), true) else (([] : List Int), false)).1 (if ringB r2 && inB 0 100 p2 then (List.replicate r2.1.toNat (w64 (p2 * r2.2.1)), true) else (([] : List Int), false)).1 = some true := by
    apply same_self
    by_cases h : (ringB r2 && inB 0 100 p2) = true
    · rw [if_pos h]
      simp only [Bool.and_eq_true] at h
      have := ringB_iff h.1
      simp; omega
    · rw [if_neg h]; simp
  rw [if_neg (by simp), calls_self l (by omega), Option.bind_some, if_neg (by simp), if_neg (by simp), hq, Option.bind_some]
  unfold laws_FnWaitsBounded_j3
  rw [if_neg (by simp)]
  dsimp only
  by_cases hff : ¬ f = true
  · rw [if_neg hff, j5f]
  have hff := Classical.not_not.1 hff
  rw [if_pos hff]
  by_cases hge : ¬ p ≥ r.2.1
  · rw [show decide (p ≥ r.2.1) = false by simpa using hge, j5f]
  have hge := Classical.not_not.1 hge
  rw [show decide (p ≥ r.2.1) = true by simpa using hge]
  obtain ⟨S, e, hS, rfl, hr, h20, rfl⟩ := hfull hff
  obtain ⟨b1, b2, b3⟩ := ringB_iff hr
  obtain ⟨H, hH⟩ : ∃ H : Nat, r.2.1 = H := ⟨r.2.1.toNat, by omega⟩
  obtain ⟨W, hW⟩ : ∃ W : Nat, r.2.2 = W := ⟨r.2.2.toNat, by omega⟩
  have er : r = ((S : Int), (H : Int), (W : Int)) := by rw [Prod.ext_iff, Prod.ext_iff]; exact ⟨hS, hH, hW⟩
  have o : (fg S H W e).Ok := fg_ok (by omega) (by omega) (by omega) h20
  have hf : Tk.Fits (fg S H W e) (full S e S) := fg_fits (by omega)
  have c1 : impl_VisitsOf r (full S e S) r.1 = some ((fg S H W e).vis S, true) := by
    have := Tk.impl_visits_ok o hf (n := S) (by omega)
    rw [hS, er]; exact this
  have c2 : impl_FullShares r 1 = some (List.replicate S (H : Int), true) := by
    rw [(shares_same r 1).1, hr, show inB 0 100 1 = true by decide, if_pos (by rfl), hS, hH]
    have : w64 (1 * (H : Int)) = H := by rw [w64_id (by omega) (by omega)]; omega
    rw [this]; rfl
  unfold laws_FnWaitsBounded_j5
  rw [if_pos rfl]
  dsimp only
  rw [c1, Option.bind_some, c2, Option.bind_some, if_neg (by simp)]
  unfold laws_FnWaitsBounded_j6
  rw [if_neg (by simp)]
  have hvl : ((fg S H W e).vis S).length = S := lst_len _ _
  have key := iter_to (step := laws_FnWaitsBounded_s7 ((fg S H W e).vis S, true) (List.replicate S (H : Int), true)) (fun k => (k : Int)) S (r := .inl ()) (by
    intro k hk
    unfold laws_FnWaitsBounded_s7
    dsimp only
    have a2 : at? [((fg S H W e).cm k : Int), ((k % (fg S H W e).S : Nat) : Int), ((fg S H W e).sn k : Int)] 2 = some ((fg S H W e).sn k : Int) := rfl
    rw [if_pos (by rw [hvl]; simpa using hk), at_eq, Tk.vis_at hk, Option.bind_some, a2, Option.bind_some, at_eq, List.getElem?_replicate, if_pos hk, Option.bind_some, fg_sn (by omega) (by omega) hk, if_neg (by simp), w64_nat1 (by omega)]) (by
    unfold laws_FnWaitsBounded_s7
    dsimp only
    rw [if_neg (by rw [hvl]; simp)])
  unfold laws_FnWaitsBounded_l7
  have e0 : ((0 : Nat) : Int) = 0 := rfl
  rw [e0] at key
  rw [key]
  exact h4

section
variable {g : Tk} {cs : List Call}
theorem wb_l10 (o : g.Ok) (hf : Tk.Fits g cs) (r : Int × Int × Int) {i : Nat} (hi : i < g.L) : laws_FnWaitsBounded_l10 (r, cs) (g.ftL, true) (i : Int) ((g.tk i : Int), (g.fr i : Int), (g.to i : Int)) (0, 0) = some (g.ahead i : Int) := by
  have hL := o.L20
  have key := iter_to (step := laws_FnWaitsBounded_s10 (r, cs) (g.ftL, true) (i : Int) ((g.tk i : Int), (g.fr i : Int), (g.to i : Int))) (fun j => ((cnt (fun j => decide (g.fr j = g.fr i) && decide (g.tk i ≤ g.ft j)) j : Int), (j : Int))) i (r := (g.ahead i : Int)) (by
    intro j hj
    have hc := cnt_le (fun j => decide (g.fr j = g.fr i) && decide (g.tk i ≤ g.ft j)) j
    have j12f : ∀ n : Int, laws_FnWaitsBounded_j12 n (j : Int) false = some (.inl (n, ((j + 1 : Nat) : Int))) := fun n => by
      simp [laws_FnWaitsBounded_j12, laws_FnWaitsBounded_j11, w64_nat1 (show j ≤ 4611686018427387904 by omega)]
    unfold laws_FnWaitsBounded_s10
    dsimp only
    rw [if_pos (by simpa using hj), at_eq, hf.get j (by omega), Option.bind_some]
    dsimp only
    by_cases h1 : g.fr j = g.fr i
    · rw [if_pos (by rw [beq_iff_eq]; exact congrArg _ h1), Tk.ftL_at (by omega), Option.bind_some]
      by_cases h2 : g.tk i ≤ g.ft j
      · rw [show decide ((g.ft j : Int) ≥ (g.tk i : Int)) = true by simp; omega, cnt_yes (by simp [h1, h2])]
        unfold laws_FnWaitsBounded_j12 laws_FnWaitsBounded_j11
        rw [if_pos rfl, w64_nat1 (by omega), w64_nat1 (by omega)]
      · rw [show decide ((g.ft j : Int) ≥ (g.tk i : Int)) = false by simp; omega, cnt_no (by simp [h2]), j12f]
    · rw [if_neg (by rw [beq_iff_eq]; omega), cnt_no (by simp [h1]), j12f]) (by
    unfold laws_FnWaitsBounded_s10
    dsimp only
    rw [if_neg (by simp)]
    rfl)
  exact key

theorem wb_l8 (o : g.Ok) (hf : Tk.Fits g cs) : laws_FnWaitsBounded_l8 (((g.S : Int), (g.H : Int), (g.W : Int)), cs) (g.rest, true) (g.ftL, true) (0, 0) = some (.inl g.lw) := by
  have hL := o.L20
  have key := iter_to (step := laws_FnWaitsBounded_s8 (((g.S : Int), (g.H : Int), (g.W : Int)), cs) (g.rest, true) (g.ftL, true)) (fun i => (mx (fun i => (g.ft i : Int) - g.tk i) i, (i : Int))) g.L (r := .inl g.lw) (by
    intro i hi
    have h1 := Tk.ft_lt o hi
    have h2 := o.tk i hi
    have ha : g.ahead i ≤ i := cnt_le _ _
    have hb := Tk.wait_bound o hi
    have hr : (g.ft i : Int) + 1 ≤ g.rest := mx_ge (F := fun i => (g.ft i : Int) + 1) hi
    unfold laws_FnWaitsBounded_s8
    dsimp only
    rw [if_pos (by rw [hf.len]; simpa using hi), at_eq, hf.get i hi, Option.bind_some, wb_l10 o hf _ hi, Option.bind_some, Tk.bound_ok o (by omega), Option.bind_some]
    dsimp only
    rw [if_neg (by simp), Tk.ftL_at hi, Option.bind_some, w64_id (x := (g.ft i : Int) - g.tk i) (by omega) (by omega), if_neg (by simp only [decide_eq_true_eq]; omega), show decide ((g.ft i : Int) ≥ g.rest) = false by simp only [decide_eq_false_iff_not]; omega]
    unfold laws_FnWaitsBounded_j13
    dsimp only
    rw [if_neg (by simp), Tk.ftL_at hi, Option.bind_some, w64_id (x := (g.ft i : Int) - g.tk i) (by omega) (by omega)]
    have ew : ∀ x, laws_FnWaitsBounded_j9 (i : Int) x = some (.inl (x, ((i + 1 : Nat) : Int))) := fun x => by
      unfold laws_FnWaitsBounded_j9; rw [w64_nat1 (by omega)]
    rw [ew, ew]
    conv => rhs; unfold mx
    by_cases hm : (g.ft i : Int) - g.tk i > mx (fun i => (g.ft i : Int) - g.tk i) i
    · rw [if_pos (by simpa using hm), if_pos hm]
    · rw [if_neg (by simpa using hm), if_neg hm]) (by
    unfold laws_FnWaitsBounded_s8
    dsimp only
    rw [if_neg (by rw [hf.len]; simp)]
    rfl)
  exact key

theorem wb_l14 (o : g.Ok) (hf : Tk.Fits g cs) (r : Int × Int × Int) (N : Nat) : laws_FnWaitsBounded_l14 (r, cs) (g.ftL, true) (N : Int) (0, 0) = some (cnt (g.bq (N % 60)) g.L : Int) := by
  have hL := o.L20
  have e60 : Int.tmod (N : Int) 60 = ((N % 60 : Nat) : Int) := rfl
  have key := iter_to (step := laws_FnWaitsBounded_s14 (r, cs) (g.ftL, true) (N : Int)) (fun j => ((cnt (g.bq (N % 60)) j : Int), (j : Int))) g.L (r := (cnt (g.bq (N % 60)) g.L : Int)) (by
    intro j hj
    have hc := cnt_le (g.bq (N % 60)) j
    have j16f : ∀ n : Int, laws_FnWaitsBounded_j16 n (j : Int) false = some (.inl (n, ((j + 1 : Nat) : Int))) := fun n => by
      simp [laws_FnWaitsBounded_j16, laws_FnWaitsBounded_j15, w64_nat1 (show j ≤ 4611686018427387904 by omega)]
    unfold laws_FnWaitsBounded_s14
    dsimp only
    rw [if_pos (by rw [hf.len]; simpa using hj), at_eq, hf.get j hj, Option.bind_some, e60]
    dsimp only
    generalize N % 60 = t
    by_cases h1 : g.tk j ≤ t
    · rw [if_pos (by simpa using h1), Tk.ftL_at hj, Option.bind_some]
      by_cases h2 : t < g.ft j
      · rw [show decide ((g.ft j : Int) > (t : Int)) = true by simp; omega, cnt_yes (by simp [Tk.bq, h1, h2])]
        unfold laws_FnWaitsBounded_j16 laws_FnWaitsBounded_j15
        have hc := cnt_le (g.bq t) j
        rw [if_pos rfl, w64_nat1 (by omega), w64_nat1 (by omega)]
      · rw [show decide ((g.ft j : Int) > (t : Int)) = false by simp; omega, cnt_no (by simp [Tk.bq, h2]), j16f]
    · rw [if_neg (by simpa using h1), cnt_no (by simp [Tk.bq, h1]), j16f]) (by
    unfold laws_FnWaitsBounded_s14
    dsimp only
    rw [if_neg (by rw [hf.len]; simp)])
  exact key
end

theorem core_FnWaitsBounded (p0 p1 : List Int) (h0 : ∀ x ∈ p0, 0 ≤ x ∧ x < 256) (h1 : ∀ x ∈ p1, 0 ≤ x ∧ x < 256) : laws_FnWaitsBounded p0 p1 = some true := by
  obtain ⟨b, e, hb⟩ := big_ok p0 p1 h0 h1
  unfold laws_FnWaitsBounded
  rw [e, Option.bind_some]
  cases b with
  | true => rw [if_pos rfl]
  | false =>
    obtain ⟨hp0, hp1⟩ := hb rfl
    have hj := wb_j2 hp1
    obtain ⟨r, cs, e1, hl⟩ := draw_calls hp0
    have hl' : cs.length ≤ 1000000 := by omega
    unfold spec_DrawLongestWait
    rw [if_neg (by simp), e1, Option.bind_some, Option.bind_some]
    dsimp only
    cases hv : calledB r cs with
    | false =>
      have b0 : impl_SentAt r cs = some ([], false) := by
        unfold impl_SentAt
        rw [called_eq r cs hl', hv, Option.bind_some, if_pos (by rfl)]
      have b1 : impl_LongestWait r cs = some (0, false) := by
        unfold impl_LongestWait impl_LongestWait_l1
        have : iter (impl_LongestWait_s1 cs ([], false)) ((0 : Int), (0 : Int)) = some 0 := iter_stop (by unfold impl_LongestWait_s1; dsimp only; rw [if_neg (by simp)])
        rw [b0, Option.bind_some, this]; rfl
      have b2 : spec_LongestWait r cs = some (0, false) := by
        unfold spec_LongestWait
        rw [tkCalls_eq r cs hl', hv, Option.bind_some, if_pos (by rfl)]
      have b3 : impl_ArrivedAt r cs = some ([], false) := by
        unfold impl_ArrivedAt impl_ArrivedAt_l1
        have : iter (impl_ArrivedAt_s1 ([], false)) (([] : List Int), (0 : Int)) = some [] := iter_stop (by unfold impl_ArrivedAt_s1; dsimp only; rw [if_neg (by simp)])
        rw [b0, Option.bind_some]
        dsimp only
        rw [this]; rfl
      have b4 : impl_RestAt r cs = some (0, false) := by
        unfold impl_RestAt impl_RestAt_l1
        have : iter (impl_RestAt_s1 ([], false)) ((0 : Int), (0 : Int)) = some 0 := iter_stop (by unfold impl_RestAt_s1; dsimp only; rw [if_neg (by simp)])
        rw [b3, Option.bind_some, this]; rfl
      have b5 : spec_RestAt r cs = some (0, false) := by
        unfold spec_RestAt
        rw [tkCalls_eq r cs hl', hv, Option.bind_some, if_pos (by rfl)]
      rw [b1, Option.bind_some, b2, Option.bind_some, b4, Option.bind_some, b5, Option.bind_some]
      dsimp only
      rw [if_neg (by simp), if_neg (by simp), if_neg (by simp), if_neg (by simp)]
      unfold laws_FnWaitsBounded_j1
      rw [if_neg (by simp)]
      dsimp only
      rw [if_neg (by simp), hj]
    | true =>
      obtain ⟨o, hf, er⟩ := tk_ok hv
      generalize tkOf r cs = g at o hf er
      subst er
      rw [Tk.impl_wait_ok o hf, Option.bind_some, Tk.spec_wait_ok o hf, Option.bind_some, Tk.impl_rest_ok o hf, Option.bind_some, Tk.spec_rest_ok o hf, Option.bind_some]
      dsimp only
      rw [if_neg (by simp), if_neg (by simp), if_neg (by simp), if_neg (by simp)]
      unfold laws_FnWaitsBounded_j1
      rw [if_neg (by simp)]
      dsimp only
      have hn0 := hp0.2
      have hn1 := hp1.2
      have hw : w64 (w64 (3 * (p0.length : Int)) + w64 (7 * (p1.length : Int))) = ((3 * p0.length + 7 * p1.length : Nat) : Int) := by
        rw [w64_id (x := 3 * (p0.length : Int)) (by omega) (by omega), w64_id (x := 7 * (p1.length : Int)) (by omega) (by omega), w64_id (by omega) (by omega)]; omega
      rw [if_pos rfl, Tk.sent_ok o hf, Option.bind_some, if_neg (by simp), wb_l8 o hf, Option.bind_some]
      dsimp only
      rw [if_neg (by simp), Option.bind_some, hw, wb_l14 o hf]
      generalize 3 * p0.length + 7 * p1.length = N
      have e60 : Int.tmod (N : Int) 60 = ((N % 60 : Nat) : Int) := rfl
      have hN : N % 60 < 60 := Nat.mod_lt _ (by omega)
      have hbb := Tk.bl_bound o (N % 60) (Nat.le_refl g.L)
      have hL := o.L20
      have hS := o.S12
      rw [e60, Tk.impl_backlog_ok o hf (by omega), Option.bind_some, Option.bind_some]
      dsimp only
      rw [if_neg (by simp), zsum_ok _ (by rw [Tk.bl_len]; omega) (fun x hx => by have := hbb x hx; omega), Option.bind_some, Tk.bl_len, Tk.bl_sum o _ (Nat.le_refl _)]
      unfold laws_FnWaitsBounded_j17
      rw [if_neg (by simp), hj]
end Go.Proofs.Ytdblfocadcgmaaa.Ev.W7
