/- Visits and rotations of timed rings: what the program and the reference tell; no condition but what each names. -/
import Derived.Test.YtoeddkfbhjmbmaaQ2M3
set_option linter.unusedVariables false
set_option linter.unusedSimpArgs false
namespace Go.Proofs.Ytoeddkfbhjmbmaa.Ev.Q2
open Go
set_option linter.unusedVariables false
set_option linter.unusedSimpArgs false
set_option maxHeartbeats 1000000
namespace Tr
theorem good_of {T w : Int} {F : List Int} {ws : List (List Int)} (h : wishedB T w F ws = true) : Good T w F ws := by
  simp only [wishedB, timedB, Bool.and_eq_true, decide_eq_true_eq, inB_iff] at h
  obtain ⟨⟨g1, g2, g3, g4, g5⟩, h2, h3⟩ := h
  refine ⟨by omega, g2, g3, all_in g4, h2, fun row hr => ?_, by omega⟩
  have := List.all_eq_true.1 h3 row hr
  simp only [rowB, Bool.and_eq_true, decide_eq_true_eq] at this
  exact ⟨this.1, all_in this.2⟩
variable {T w : Int} {F : List Int} {ws : List (List Int)}
def rowAt (T w : Int) (F : List Int) (ws : List (List Int)) (i : Nat) : List Int := [tk T w F ws i, ((i % F.length : Nat) : Int), fr T w F ws i]
def visitsR (T w : Int) (F : List Int) (ws : List (List Int)) (N : Nat) : List (List Int) := (List.range N).map (rowAt T w F ws)
def gonesR (T w : Int) (F : List Int) (ws : List (List Int)) (N : Nat) : List Int := (List.range N).map fun i => tk T w F ws i - la T w F ws i
def lastL (T w : Int) (F : List Int) (ws : List (List Int)) (r s : Nat) : List Int := (List.range F.length).map fun j => if j < s then tk T w F ws (r * F.length + j) else la T w F ws (r * F.length + j)
theorem lastL_length (r s : Nat) : (lastL T w F ws r s).length = F.length := by simp [lastL]
theorem lastL_at (r s j : Nat) (h : j < F.length) : at? (lastL T w F ws r s) (j : Int) = some (if j < s then tk T w F ws (r * F.length + j) else la T w F ws (r * F.length + j)) := by
  rw [at_some (by rw [lastL_length]; exact h)]
  simp [lastL]
theorem lastL_set (r s : Nat) (h : s < F.length) : (lastL T w F ws r s).set s (tk T w F ws (r * F.length + s)) = lastL T w F ws r (s + 1) := by
  refine List.ext_getElem (by simp [lastL]) fun j h1 h2 => ?_
  simp only [lastL, List.length_set, List.length_map, List.length_range] at h1
  simp only [lastL, List.getElem_set, List.getElem_map, List.getElem_range]
  by_cases c : s = j
  · subst c; rw [if_pos rfl, if_pos (by omega)]
  · rw [if_neg c]
    by_cases c2 : j < s
    · rw [if_pos c2, if_pos (by omega)]
    · rw [if_neg c2, if_neg (by omega)]
theorem lastL_next (hn : 1 ≤ F.length) (r : Nat) : lastL T w F ws r F.length = lastL T w F ws (r + 1) 0 := by
  refine List.ext_getElem (by simp [lastL]) fun j h1 h2 => ?_
  simp only [lastL, List.length_map, List.length_range] at h1
  simp only [lastL, List.getElem_map, List.getElem_range]
  rw [if_pos h1, if_neg (by omega), la_later (by rw [Nat.succ_mul]; omega), show (r + 1) * F.length + j - F.length = r * F.length + j by rw [Nat.succ_mul]; omega]
theorem la_ok (g : Good T w F ws) (i : Nat) (hi : i ≤ 240) : -240 ≤ la T w F ws i ∧ la T w F ws i ≤ 100800 := by
  by_cases c : i < F.length
  · rw [la_first c]
    have h1 := g.hn
    have h2 := g.hw
    have : ((F.length : Int) - (i : Int)) * w ≤ 12 * 20 := by
      calc ((F.length : Int) - (i : Int)) * w ≤ 12 * w := Int.mul_le_mul_of_nonneg_right (by omega) (by omega)
        _ ≤ 12 * 20 := by omega
    have e : ((i : Int) - (F.length : Int)) * w = -(((F.length : Int) - (i : Int)) * w) := by rw [← Int.neg_mul]; congr 1; omega
    have h0 : 0 ≤ ((F.length : Int) - (i : Int)) * w := Int.mul_nonneg (by omega) (by omega)
    omega
  · rw [la_later c]
    have := tk_ok g (i - F.length)
    omega
theorem visitsR_length (N : Nat) : (visitsR T w F ws N).length = N := by simp [visitsR]
theorem visitsR_at (N i : Nat) (h : i < N) : at? (visitsR T w F ws N) (i : Int) = some (rowAt T w F ws i) := by
  rw [at_some (by rw [visitsR_length]; exact h)]
  simp [visitsR]
theorem visitsR_succ (N : Nat) : visitsR T w F ws (N + 1) = visitsR T w F ws N ++ [rowAt T w F ws N] := by simp [visitsR, List.range_succ]
theorem gonesR_succ (N : Nat) : gonesR T w F ws (N + 1) = gonesR T w F ws N ++ [tk T w F ws N - la T w F ws N] := by simp [gonesR, List.range_succ]
theorem gonesR_length (N : Nat) : (gonesR T w F ws N).length = N := by simp [gonesR]

theorem ahead_w {i n : Nat} {w : Int} (hn : n ≤ 12) (hi : i < n) (hw : 1 ≤ w ∧ w ≤ 20) : w64 (w64 ((i : Int) - (n : Int)) * w) = ((i : Int) - (n : Int)) * w := by
  have h1 : 0 ≤ ((n : Int) - (i : Int)) * w ∧ ((n : Int) - (i : Int)) * w ≤ 240 := by
    constructor
    · exact Int.mul_nonneg (by omega) (by omega)
    · calc ((n : Int) - (i : Int)) * w ≤ 12 * w := Int.mul_le_mul_of_nonneg_right (by omega) (by omega)
        _ ≤ 240 := by omega
  have e : ((i : Int) - (n : Int)) * w = -(((n : Int) - (i : Int)) * w) := by rw [← Int.neg_mul]; congr 1; omega
  rw [w64_id (x := (i : Int) - (n : Int)) (by omega) (by omega), w64_id (by omega) (by omega)]

theorem round_lt (g : Good T w F ws) {r s : Nat} (hr : r < ws.length) (hs : s < F.length) : r * F.length + s < 240 ∧ r * F.length + s < ws.length * F.length := by
  have h1 := g.hn
  have h2 := g.hws
  have h3 : (r + 1) * F.length ≤ ws.length * F.length := Nat.mul_le_mul_right _ hr
  have h4 : ws.length * F.length ≤ 20 * 12 := Nat.mul_le_mul h2 h1.2
  rw [Nat.succ_mul] at h3
  omega

/-- One step of a round. -/
theorem step_nums (g : Good T w F ws) {r s : Nat} (hr : r < ws.length) (hs : s < F.length) {row : List Int} (hrow : ws[r]? = some row) :
    at? row (s : Int) = some (wish F ws (r * F.length + s)) ∧ at? F (s : Int) = some (fx F (r * F.length + s)) ∧ row.length = F.length ∧
    w64 (T - w64 (tk T w F ws (r * F.length + s) - la T w F ws (r * F.length + s))) = T - (tk T w F ws (r * F.length + s) - la T w F ws (r * F.length + s)) ∧
    w64 (tk T w F ws (r * F.length + s) - la T w F ws (r * F.length + s)) = tk T w F ws (r * F.length + s) - la T w F ws (r * F.length + s) ∧
    w64 (tk T w F ws (r * F.length + s) + w64 (w64 (fx F (r * F.length + s) + fr T w F ws (r * F.length + s)) + w)) = tk T w F ws (r * F.length + s + 1) := by
  have h1 := g.hn
  obtain ⟨q1, q2⟩ := round_lt g hr hs
  have hdiv : (r * F.length + s) / F.length = r := by rw [Nat.mul_comm, Nat.mul_add_div (by omega), Nat.div_eq_of_lt hs]; rfl
  have hmod : (r * F.length + s) % F.length = s := by rw [Nat.mul_comm, Nat.mul_add_mod, Nat.mod_eq_of_lt hs]
  have hrl := g.hrow row (List.mem_of_getElem? hrow)
  have hget : ws.getD r [] = row := by rw [List.getD_eq_getElem?_getD, hrow]; rfl
  generalize hi : r * F.length + s = i at *
  have t1 := tk_ok g i
  have t2 := la_ok g i (by omega)
  have t3 := fx_ok g i
  have t4 := fr_ok g i
  have t5 := wish_ok g i
  have t6 := g.ht
  have t7 := g.hw
  refine ⟨?_, ?_, hrl.1, ?_, ?_, ?_⟩
  · rw [at_some (by omega), wish, hdiv, hmod, hget, List.getD_eq_getElem?_getD, List.getElem?_eq_getElem (by omega)]; rfl
  · rw [at_some hs, fx, hmod, List.getD_eq_getElem?_getD, List.getElem?_eq_getElem hs]; rfl
  · rw [w64_id (x := tk T w F ws i - la T w F ws i) (by omega) (by omega), w64_id (by omega) (by omega)]
  · rw [w64_id (by omega) (by omega)]
  · rw [w64_id (x := fx F i + fr T w F ws i) (by omega) (by omega), w64_id (x := fx F i + fr T w F ws i + w) (by omega) (by omega), w64_id (by omega) (by omega), tk_succ]
    omega

theorem visits_eq (h : wishedB T w F ws = true) : impl_TimedRing_visits (T, w, F) ws = some (visitsR T w F ws (ws.length * F.length)) := by
  have g := good_of h
  have h1 := g.hn
  have h2 := g.hws
  have k1 := iter_to (step := impl_TimedRing_visits_s1 (T, w, F)) (fun i => ((List.range i).map fun j => la T w F ws j, (i : Int))) F.length (r := (List.range F.length).map fun j => la T w F ws j)
    (fun i hi => by
      simp only [impl_TimedRing_visits_s1, Int.ofNat_lt, hi, decide_true, if_true, ahead_w h1.2 hi g.hw]
      rw [app_ok (by simp; omega), Option.bind_some, w64_nat1 (by omega), List.range_succ, List.map_append, ← la_first (T := T) (ws := ws) hi]
      rfl)
    (by simp [impl_TimedRing_visits_s1])
  have hl0 : ((List.range F.length).map fun j => la T w F ws j) = lastL T w F ws 0 0 := by
    refine List.map_congr_left fun j _ => ?_
    rw [if_neg (by omega), Nat.zero_mul, Nat.zero_add]
  have k3 : ∀ (r : Nat) (row : List Int), r < ws.length → ws[r]? = some row → impl_TimedRing_visits_l3 (T, w, F) row (visitsR T w F ws (r * F.length), lastL T w F ws r 0, tk T w F ws (r * F.length), 0) = some (visitsR T w F ws ((r + 1) * F.length), lastL T w F ws (r + 1) 0, tk T w F ws ((r + 1) * F.length)) := by
    intro r row hr hrow
    have hrl := (g.hrow row (List.mem_of_getElem? hrow)).1
    have := iter_to (step := impl_TimedRing_visits_s3 (T, w, F) row) (fun s => (visitsR T w F ws (r * F.length + s), lastL T w F ws r s, tk T w F ws (r * F.length + s), (s : Int))) F.length (r := (visitsR T w F ws (r * F.length + F.length), lastL T w F ws r F.length, tk T w F ws (r * F.length + F.length)))
      (fun s hs => by
        obtain ⟨n1, n2, n3, n4, n5, n6⟩ := step_nums g hr hs hrow
        obtain ⟨q1, q2⟩ := round_lt g hr hs
        simp only [impl_TimedRing_visits_s3, hrl, Int.ofNat_lt, hs, decide_true, if_true, n1, n2, lastL_at r s s hs, Nat.lt_irrefl, if_false, Option.bind_some, n4]
        rw [show (if (if T - (tk T w F ws (r * F.length + s) - la T w F ws (r * F.length + s)) > 0 then T - (tk T w F ws (r * F.length + s) - la T w F ws (r * F.length + s)) else 0) < wish F ws (r * F.length + s) then (if T - (tk T w F ws (r * F.length + s) - la T w F ws (r * F.length + s)) > 0 then T - (tk T w F ws (r * F.length + s) - la T w F ws (r * F.length + s)) else 0) else wish F ws (r * F.length + s)) = fr T w F ws (r * F.length + s) from (fr_eq _).symm]
        rw [app_ok (by rw [visitsR_length]; simp; omega), Option.bind_some, n6, w64_nat1 (by omega), Int.toNat_natCast, lastL_set r s hs, ← Nat.add_assoc, visitsR_succ, rowAt]
        have hmod : (r * F.length + s) % F.length = s := by rw [Nat.mul_comm, Nat.mul_add_mod, Nat.mod_eq_of_lt hs]
        rw [hmod])
      (by simp [impl_TimedRing_visits_s3, hrl])
    unfold impl_TimedRing_visits_l3
    simp only [Nat.add_zero, Int.natCast_zero] at this
    rw [this, Nat.succ_mul, lastL_next h1.1]
  have k2 := iter_to (step := impl_TimedRing_visits_s2 (T, w, F) ws) (fun r => (visitsR T w F ws (r * F.length), lastL T w F ws r 0, tk T w F ws (r * F.length), (r : Int))) ws.length (r := visitsR T w F ws (ws.length * F.length))
    (fun r hr => by
      have hrow : ws[r]? = some ws[r] := List.getElem?_eq_getElem hr
      simp only [impl_TimedRing_visits_s2, Int.ofNat_lt, hr, decide_true, if_true, at_eq, hrow, Option.bind_some, k3 r _ hr hrow, w64_nat1 (show r ≤ 4611686018427387904 by omega)])
    (by simp [impl_TimedRing_visits_s2])
  unfold impl_TimedRing_visits impl_TimedRing_visits_l1 impl_TimedRing_visits_l2
  simp only [List.range_zero, List.map_nil, Int.natCast_zero] at k1
  rw [k1, Option.bind_some, hl0]
  simp only [Nat.zero_mul, Int.natCast_zero, tk_zero] at k2
  rw [show (([] : List (List Int)), lastL T w F ws 0 0, (0 : Int), (0 : Int)) = (visitsR T w F ws 0, lastL T w F ws 0 0, 0, 0) from rfl, k2]
  rfl

theorem boVisits_eq (h : wishedB T w F ws = true) : spec_boVisits (T, w, F) ws = some (visitsR T w F ws (ws.length * F.length), gonesR T w F ws (ws.length * F.length)) := by
  have g := good_of h
  have h1 := g.hn
  have h2 := g.hws
  have hw := g.hw
  have k1 := iter_to (step := spec_boVisits_s1 (T, w, F)) (fun i => ((List.range F.length).map fun j => if j < i then la T w F ws j else 0, (i : Int))) F.length (r := (List.range F.length).map fun j => if j < F.length then la T w F ws j else 0)
    (fun i hi => by
      have ha : at? ((List.range F.length).map fun j => if j < i then la T w F ws j else 0) (i : Int) = some 0 := by
        rw [at_some (by simp; omega)]; simp
      simp only [spec_boVisits_s1, Int.toNat_natCast, List.length_replicate, Int.ofNat_lt, hi, decide_true, if_true, ha, Option.bind_some, ahead_w h1.2 hi g.hw, w64_nat1 (show i ≤ 4611686018427387904 by omega)]
      congr 3
      refine List.ext_getElem (by simp) fun j q1 q2 => ?_
      simp only [List.length_set, List.length_map, List.length_range] at q1
      simp only [List.getElem_set, List.getElem_map, List.getElem_range]
      by_cases c : i = j
      · subst c; rw [if_pos rfl, if_pos (by omega), la_first hi]
      · rw [if_neg c]
        by_cases c2 : j < i
        · rw [if_pos c2, if_pos (by omega)]
        · rw [if_neg c2, if_neg (by omega)])
    (by simp [spec_boVisits_s1])
  have hl0 : ((List.range F.length).map fun j => if j < F.length then la T w F ws j else 0) = lastL T w F ws 0 0 := by
    refine List.map_congr_left fun j hj => ?_
    have := List.mem_range.1 hj
    rw [if_pos this, if_neg (by omega), Nat.zero_mul, Nat.zero_add]
  have hr0 : (List.replicate F.length (0 : Int)) = (List.range F.length).map fun j => if j < 0 then la T w F ws j else 0 := by
    refine List.ext_getElem (by simp) fun j q1 q2 => ?_
    simp
  have k3 : ∀ (r : Nat) (row : List Int), r < ws.length → ws[r]? = some row → spec_boVisits_l3 (T, w, F) row (lastL T w F ws r 0, visitsR T w F ws (r * F.length), gonesR T w F ws (r * F.length), tk T w F ws (r * F.length), 0) = some (lastL T w F ws (r + 1) 0, visitsR T w F ws ((r + 1) * F.length), gonesR T w F ws ((r + 1) * F.length), tk T w F ws ((r + 1) * F.length)) := by
    intro r row hr hrow
    have hrl := (g.hrow row (List.mem_of_getElem? hrow)).1
    have := iter_to (step := spec_boVisits_s3 (T, w, F) row) (fun s => (lastL T w F ws r s, visitsR T w F ws (r * F.length + s), gonesR T w F ws (r * F.length + s), tk T w F ws (r * F.length + s), (s : Int))) F.length (r := (lastL T w F ws r F.length, visitsR T w F ws (r * F.length + F.length), gonesR T w F ws (r * F.length + F.length), tk T w F ws (r * F.length + F.length)))
      (fun s hs => by
        obtain ⟨n1, n2, n3, n4, n5, n6⟩ := step_nums g hr hs hrow
        obtain ⟨q1, q2⟩ := round_lt g hr hs
        have hmost : spec_l1Most 0 (T - (tk T w F ws (r * F.length + s) - la T w F ws (r * F.length + s))) = some (mx 0 (T - (tk T w F ws (r * F.length + s) - la T w F ws (r * F.length + s)))) := by
          unfold spec_l1Most mx
          by_cases c : (0 : Int) > T - (tk T w F ws (r * F.length + s) - la T w F ws (r * F.length + s))
          · rw [if_pos (by simpa using c), if_neg (by omega)]
          · rw [if_neg (by simpa using c)]
            split <;> first | rfl | exact congrArg some (by omega)
        have hleast : spec_l1Least (wish F ws (r * F.length + s)) (mx 0 (T - (tk T w F ws (r * F.length + s) - la T w F ws (r * F.length + s)))) = some (fr T w F ws (r * F.length + s)) := by
          unfold spec_l1Least
          rw [fr_eq]
          unfold mn
          generalize mx 0 (T - (tk T w F ws (r * F.length + s) - la T w F ws (r * F.length + s))) = m
          by_cases c : wish F ws (r * F.length + s) < m
          · rw [if_pos (by simpa using c), if_neg (by omega)]
          · rw [if_neg (by simpa using c)]
            split <;> first | rfl | exact congrArg some (by omega)
        simp only [spec_boVisits_s3, hrl, Int.ofNat_lt, hs, decide_true, if_true, n1, n2, lastL_at r s s hs, Nat.lt_irrefl, if_false, Option.bind_some, n4, hmost, hleast]
        rw [app_ok (by rw [visitsR_length]; simp; omega), Option.bind_some, app_ok (by rw [gonesR_length]; simp; omega), Option.bind_some, n5, n6, w64_nat1 (by omega), Int.toNat_natCast, lastL_set r s hs, ← Nat.add_assoc, visitsR_succ, gonesR_succ, rowAt]
        have hmod : (r * F.length + s) % F.length = s := by rw [Nat.mul_comm, Nat.mul_add_mod, Nat.mod_eq_of_lt hs]
        rw [hmod])
      (by simp [spec_boVisits_s3, hrl])
    unfold spec_boVisits_l3
    simp only [Nat.add_zero, Int.natCast_zero] at this
    rw [this, Nat.succ_mul, lastL_next h1.1]
  have k2 := iter_to (step := spec_boVisits_s2 (T, w, F) ws) (fun r => (lastL T w F ws r 0, visitsR T w F ws (r * F.length), gonesR T w F ws (r * F.length), tk T w F ws (r * F.length), (r : Int))) ws.length (r := (visitsR T w F ws (ws.length * F.length), gonesR T w F ws (ws.length * F.length)))
    (fun r hr => by
      have hrow : ws[r]? = some ws[r] := List.getElem?_eq_getElem hr
      simp only [spec_boVisits_s2, Int.ofNat_lt, hr, decide_true, if_true, at_eq, hrow, Option.bind_some, k3 r _ hr hrow, w64_nat1 (show r ≤ 4611686018427387904 by omega)])
    (by simp [spec_boVisits_s2])
  unfold spec_boVisits spec_boVisits_l1 spec_boVisits_l2
  simp only [Int.natCast_zero, Int.toNat_natCast] at k1 ⊢
  rw [mk_ok (by omega) (by omega) (by omega), Option.bind_some, hr0, k1, Option.bind_some, hl0]
  simp only [Nat.zero_mul, Int.natCast_zero, tk_zero] at k2
  rw [show (lastL T w F ws 0 0, ([] : List (List Int)), ([] : List Int), (0 : Int), (0 : Int)) = (lastL T w F ws 0 0, visitsR T w F ws 0, gonesR T w F ws 0, 0, 0) from rfl, k2]
  rfl
end Tr
end Go.Proofs.Ytoeddkfbhjmbmaa.Ev.Q2
