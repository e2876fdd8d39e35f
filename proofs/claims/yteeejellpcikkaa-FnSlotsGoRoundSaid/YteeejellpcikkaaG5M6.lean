/- Slot rings: the first program at its begin and behind ticks; no condition but that it is a ring with messages. -/
import Derived.Test.YteeejellpcikkaaG5M5
set_option linter.unusedVariables false
set_option linter.unusedSimpArgs false
namespace Go.Proofs.Yteeejellpcikkaa.Ev.G5
open Go
set_option linter.unusedSimpArgs false
set_option linter.unusedVariables false

/-! #### a row of one number repeated -/
theorem mul_small : ∀ m : Nat, m < 21 → bits_Mul (IntKind.wrap .u64 1) (IntKind.wrap .u64 (m : Int)) = some (0, (m : Int)) := by decide +kernel

theorem spl_rep {xs : List Int} {v : Int} {p L : Nat} (hl : xs.length = L) (hp : p ≤ L) (h : xs.take p = List.replicate p v) :
    (spl xs p (List.take (L - p) (List.replicate p v))).length = L ∧ (spl xs p (List.take (L - p) (List.replicate p v))).take (p + min p (L - p)) = List.replicate (p + min p (L - p)) v := by
  have e : List.take (L - p) (List.replicate p v) = List.replicate (min p (L - p)) v := by rw [List.take_replicate, Nat.min_comm]
  rw [e]
  refine ⟨?_, ?_⟩
  · rw [spl_length (by simp; omega)]; exact hl
  · unfold spl
    rw [h, ← List.append_assoc, List.replicate_append_replicate, List.take_left' (by simp)]

theorem repeat_ok (v : Int) {L : Nat} (hL : L ≤ 20) : slices_Repeat [v] (L : Int) = some (List.replicate L v) := by
  have hm := mul_small L (by omega)
  unfold slices_Repeat
  rw [if_neg (by simp)]
  have e1 : ((List.length [v] : Nat) : Int) = 1 := rfl
  rw [e1, hm, Option.bind_some]
  dsimp only
  rw [if_neg (by simp), show decide ((L : Int) > 9223372036854775807) = false by simp; omega]
  unfold slices_Repeat_j1
  dsimp only
  have e2 : w64 (L : Int) = (L : Int) := w64_id (by omega) (by omega)
  have e3 : Int.toNat (L : Int) = L := rfl
  rw [if_neg (by simp), e2, mk_ok (by omega) (by omega) (by omega), Option.bind_some, e3, List.length_replicate]
  have e4 : (spl (List.replicate L (0 : Int)) 0 (List.take L [v])).length = L ∧ (spl (List.replicate L (0 : Int)) 0 (List.take L [v])).take (min 1 L) = List.replicate (min 1 L) v := by
    cases L with
    | zero => simp [spl]
    | succ m => simp [spl, List.replicate_succ]
  have key := iter_ex (step := slices_Repeat_s2) (fun m s => ∃ (xs : List Int) (p : Nat), s = (xs, (p : Int)) ∧ xs.length = L ∧ p ≤ L ∧ (0 < L → 1 ≤ p) ∧ xs.take p = List.replicate p v ∧ m = L - p) (fun r => r = List.replicate L v) (by
    rintro m s ⟨xs, p, rfl, h1, h2, h3, h4, rfl⟩
    unfold slices_Repeat_s2
    dsimp only
    rw [h1]
    by_cases hp : p < L
    · right
      have ep : Int.toNat (p : Int) = p := rfl
      rw [if_pos (by simpa using hp), sub_ok (by omega) (by omega) (by omega), Option.bind_some, sub_ok (by omega) (by omega) (by omega), Option.bind_some, Option.bind_some]
      rw [e3, ep, show Int.toNat (0 : Int) = 0 from rfl, List.drop_zero, Nat.sub_zero, h4, List.length_replicate]
      obtain ⟨q1, q2⟩ := spl_rep h1 h2 h4
      refine ⟨_, L - (p + min p (L - p)), by have := h3 (by omega); omega, rfl, _, p + min p (L - p), ?_, q1, by omega, by omega, q2, rfl⟩
      rw [w64_id (by omega) (by omega)]
      rfl
    · left
      obtain rfl : p = L := by omega
      rw [if_neg (by simp)]
      refine ⟨_, rfl, ?_⟩
      rw [← h4, ← h1, List.take_length]) (L - min 1 L) (spl (List.replicate L (0 : Int)) 0 (List.take L [v]), ((min 1 L : Nat) : Int)) ⟨_, min 1 L, rfl, e4.1, by omega, by omega, e4.2, rfl⟩
  obtain ⟨r, h1, rfl⟩ := key
  unfold slices_Repeat_l2
  have e5 : min (List.length [v]) L = min 1 L := rfl
  rw [e5, h1]
  rfl

theorem clone_ok (xs : List Int) (h : xs.length ≤ 1000000) : slices_Clone xs = some xs := by
  unfold slices_Clone
  rw [app_ok (by simp; omega)]
  rfl

namespace Rg
variable {g : Rg} {ms : List Msg}

theorem mid_congr (o : g.Ok) (t : Nat) {P P' : Nat → Bool} (h : ∀ k, k < g.n → P k = P' k) : g.mS t P = g.mS t P' ∧ g.mF t P = g.mF t P' ∧ g.mR t P = g.mR t P' := by
  refine ⟨mapr_eq fun i hi => by rw [h i hi], mapr_eq fun i _ => by rw [h _ (pos_lt o _ _)], mapr_eq fun i _ => ?_⟩
  unfold mRv
  split
  · rw [h _ (pos_lt o _ _)]
  · rfl

/-- The state of the first program behind so many ticks. -/
noncomputable def stI (g : Rg) (ms : List Msg) (t : Nat) : Int × Bool × List Msg × Int × List Int × List Int × List Int := ((g.n : Int), g.home, ms, (t : Int), g.slL t, g.flL t, g.rdL t)

theorem impl_step_ok (o : g.Ok) (hm : Fits g ms) {t : Nat} (ht : t ≤ 1000000) : impl_slotter_step (g.stI ms t) = some (g.stI ms (t + 1)) := by
  have hn := o.n2
  have hn12 := o.n12
  obtain ⟨b1, b2, b3⟩ := mid_begin (g := g) t
  have key := iter_to (step := impl_slotter_step_s1 (g.stI ms t)) (fun m => ((g.n : Int), g.home, ms, (t : Int), g.mS t (fun k => decide ((k + t) % g.n < m)), g.mF t (fun k => decide ((k + t) % g.n < m)), g.mR t (fun k => decide ((k + t) % g.n < m)), (m : Int))) g.n
    (r := ((g.n : Int), g.home, ms, (t : Int), g.slL (t + 1), g.flL (t + 1), g.rdL (t + 1))) (by
      intro m hm'
      unfold impl_slotter_step_s1 stI
      dsimp only
      rw [if_pos (by simpa using hm')]
      have hk := pos_lt o m t
      have hpa := pos_at o (t := t) hm'
      have := impl_station_ok (P := fun k => decide ((k + t) % g.n < m)) o hm ht hk (by simp [hpa])
      rw [hpa] at this
      rw [this, Option.bind_some]
      obtain ⟨c1, c2, c3⟩ := mid_congr o t (P := add (fun k => decide ((k + t) % g.n < m)) (g.pos m t)) (P' := fun k => decide ((k + t) % g.n < m + 1)) (by
        intro k hk'
        by_cases e : k = g.pos m t
        · rw [e, add_self, hpa]; simp
        · rw [add_ne e]
          have hne : (k + t) % g.n ≠ m := by
            intro h
            apply e
            rw [← h, pos_inv o hk']
          simp only [decide_eq_decide]
          omega)
      dsimp only
      rw [c1, c2, c3, w64_nat1 (by omega)]) (by
      unfold impl_slotter_step_s1 stI
      dsimp only
      rw [if_neg (by simp)]
      obtain ⟨c1, c2, c3⟩ := mid_end o t (P := fun k => decide ((k + t) % g.n < g.n)) (fun k hk => by simp; exact Nat.mod_lt _ (by omega))
      rw [c1, c2, c3])
  have e0 : (fun k => decide ((k + t) % g.n < 0)) = (fun _ => false) := by funext k; simp
  simp only [e0] at key
  unfold impl_slotter_step impl_slotter_step_l1
  rw [b1, b2, b3] at key
  have e1 : ((0 : Nat) : Int) = 0 := rfl
  rw [e1] at key
  show (iter (impl_slotter_step_s1 (g.stI ms t)) ((g.n : Int), g.home, ms, (t : Int), g.slL t, g.flL t, g.rdL t, (0 : Int))).bind _ = _
  rw [key, Option.bind_some]
  dsimp only
  rw [w64_nat1 (by omega)]
  rfl

theorem mapr_const {n : Nat} {f : Nat → Int} {v : Int} (h : ∀ i, i < n → f i = v) : (List.range n).map f = List.replicate n v := by
  apply List.ext_getElem?
  intro i
  rw [List.getElem?_replicate]
  by_cases hi : i < n
  · rw [mapr_get hi, if_pos hi, h i hi]
  · rw [if_neg hi, List.getElem?_eq_none (by rw [mapr_len]; omega)]
theorem fl_zero (g : Rg) : g.slL 0 = List.replicate g.n 0 ∧ g.flL 0 = List.replicate g.L (-1) ∧ g.rdL 0 = List.replicate g.L (-1) := by
  refine ⟨mapr_const fun k _ => sV_none ?_, mapr_const fun i _ => rfl, mapr_const fun i _ => rfl⟩
  rintro i ⟨_, f, h, _⟩
  simp [fl] at h

theorem impl_new_ok (o : g.Ok) (hm : Fits g ms) : impl_newSlotter ((g.n : Int), g.home) ms = some (g.stI ms 0) := by
  have hn := o.n12
  have hL := o.L20
  obtain ⟨z1, z2, z3⟩ := fl_zero g
  unfold impl_newSlotter
  rw [hm.len, repeat_ok _ hL, Option.bind_some, mk_ok (by omega) (by omega) (by dsimp only; omega), Option.bind_some, clone_ok _ (by simp; omega), Option.bind_some]
  unfold stI
  rw [z1, z2, z3]
  rfl
end Rg
end Go.Proofs.Yteeejellpcikkaa.Ev.G5
