/- Timed rings: what the program's functions and the reference's tell; no condition but lengths. -/
import Derived.Test.YtoeddkfbhjmbmaaQ2M4
set_option linter.unusedVariables false
set_option linter.unusedSimpArgs false
namespace Go.Proofs.Ytoeddkfbhjmbmaa.Ev.Q2
open Go
set_option linter.unusedVariables false
set_option linter.unusedSimpArgs false
set_option maxHeartbeats 1000000
namespace Tr
variable {T w : Int} {F : List Int} {ws : List (List Int)}
def rotsR (T w : Int) (F : List Int) (ws : List (List Int)) (m : Nat) : List Int := (List.range m).map fun j => tk T w F ws (j + F.length) - tk T w F ws j
def mostOf (a : Int) : List Int → Int
  | [] => a
  | x :: l => mostOf (if x > a then x else a) l
def vR (T w : Int) (F : List Int) (ws : List (List Int)) : List (List Int) × Bool := if wishedB T w F ws = true then (visitsR T w F ws (ws.length * F.length), true) else ([], false)
def rR (T w : Int) (F : List Int) (ws : List (List Int)) : List Int × Bool := if wishedB T w F ws = true then (rotsR T w F ws (ws.length * F.length - F.length), true) else ([], false)
def gR (T w : Int) (F : List Int) (ws : List (List Int)) : Int × Bool := (mostOf 0 (rR T w F ws).1, (rR T w F ws).2)
/-- Lengths that all loops bear. -/
def Fit (F : List Int) (ws : List (List Int)) : Prop := F.length ≤ 1000000 ∧ ws.length ≤ 1000000 ∧ ∀ row ∈ ws, row.length ≤ 1000000

theorem timedVisits_i (f : Fit F ws) : impl_TimedVisits (T, w, F) ws = some (vR T w F ws) := by
  unfold impl_TimedVisits vR
  rw [isWished_eq T w F ws f.1 f.2.1 f.2.2, Option.bind_some]
  cases c : wishedB T w F ws
  · rfl
  · simp only [Bool.not_true, Bool.false_eq_true, if_false, visits_eq c, Option.bind_some, if_true]
theorem timedVisits_s (f : Fit F ws) : spec_TimedVisits (T, w, F) ws = some (vR T w F ws) := by
  unfold spec_TimedVisits vR
  rw [boWishes_eq T w F ws f.1 f.2.1 f.2.2, Option.bind_some]
  cases c : wishedB T w F ws
  · rfl
  · simp only [Bool.not_true, Bool.false_eq_true, if_false, boVisits_eq c, Option.bind_some, if_true]
theorem rots_len (h : wishedB T w F ws = true) : ws.length * F.length ≤ 240 := by
  have g := good_of h
  exact (Nat.mul_le_mul g.hws g.hn.2 : ws.length * F.length ≤ 20 * 12)
theorem rotsR_length (m : Nat) : (rotsR T w F ws m).length = m := by simp [rotsR]
theorem rotationsOf_i (f : Fit F ws) : impl_RotationsOf (T, w, F) ws = some (rR T w F ws) := by
  unfold impl_RotationsOf rR
  rw [isWished_eq T w F ws f.1 f.2.1 f.2.2, Option.bind_some]
  cases c : wishedB T w F ws
  · rfl
  · simp only [Bool.not_true, Bool.false_eq_true, if_false, visits_eq c, Option.bind_some, if_true]
    have g := good_of c
    have hN := rots_len c
    have hn := g.hn
    generalize hNN : ws.length * F.length = N at *
    rcases Nat.lt_or_ge N F.length with hlt | hge
    · have : impl_RotationsOf_l1 (T, w, F) (visitsR T w F ws N) ([], (F.length : Int)) = some [] := by
        refine iter_stop ?_
        simp only [impl_RotationsOf_s1, visitsR_length]
        rw [if_neg (by simp; omega)]
      rw [this, show N - F.length = 0 by omega]
      rfl
    · have key := iter_count (step := impl_RotationsOf_s1 (T, w, F) (visitsR T w F ws N)) (fun i => (rotsR T w F ws (i - F.length), (i : Int))) F.length N hge (fun i h1 h2 => by
        obtain ⟨j, rfl⟩ : ∃ j, i = j + F.length := ⟨i - F.length, by omega⟩
        have e2 : w64 (((j + F.length : Nat) : Int) - (F.length : Int)) = (j : Int) := by rw [w64_id (by omega) (by omega)]; omega
        have t1 := tk_ok g (j + F.length)
        have t2 := tk_ok g j
        simp only [impl_RotationsOf_s1, visitsR_length, Int.ofNat_lt, h2, decide_true, if_true, visitsR_at N _ h2, Option.bind_some, e2, visitsR_at N j (by omega)]
        rw [show at? (rowAt T w F ws (j + F.length)) 0 = some (tk T w F ws (j + F.length)) from rfl, Option.bind_some, show at? (rowAt T w F ws j) 0 = some (tk T w F ws j) from rfl, Option.bind_some,
          w64_id (x := tk T w F ws (j + F.length) - tk T w F ws j) (by omega) (by omega), app_ok (by rw [rotsR_length]; simp; omega), Option.bind_some, w64_nat1 (by omega)]
        rw [show j + F.length - F.length = j by omega, show j + F.length + 1 - F.length = j + 1 by omega, rotsR, rotsR, List.range_succ, List.map_append]
        rfl)
      have hstop : impl_RotationsOf_s1 (T, w, F) (visitsR T w F ws N) (rotsR T w F ws (N - F.length), (N : Int)) = some (.inr (rotsR T w F ws (N - F.length))) := by
        simp [impl_RotationsOf_s1, visitsR_length]
      rw [iter_stop hstop, Nat.sub_self] at key
      unfold impl_RotationsOf_l1
      rw [show (([] : List Int), (F.length : Int)) = (rotsR T w F ws 0, (F.length : Int)) from rfl, key]
      rfl
theorem rotationsOf_s (f : Fit F ws) : spec_RotationsOf (T, w, F) ws = some (rR T w F ws) ∧ (wishedB T w F ws = true → spec_boRotations (T, w, F) ws = some (rR T w F ws).1) := by
  have key : wishedB T w F ws = true → spec_boRotations (T, w, F) ws = some (rR T w F ws).1 := by
    intro c
    have g := good_of c
    have hN := rots_len c
    have hn := g.hn
    unfold spec_boRotations rR
    simp only [boVisits_eq c, Option.bind_some, c, if_true]
    generalize hNN : ws.length * F.length = N at *
    simp only [gonesR_length]
    rcases Nat.lt_or_ge N F.length with hlt | hge
    · rw [if_pos (by simp; omega), show N - F.length = 0 by omega]
      rfl
    · rw [if_neg (by simp; omega), sub_ok (by omega) (by omega) (by rw [gonesR_length]; omega), Option.bind_some]
      unfold spec_l1Own
      rw [app_ok (by simp; omega)]
      simp only [Option.bind_some, List.nil_append, Int.toNat_natCast]
      refine congrArg some (List.ext_getElem (by simp [gonesR_length, rotsR_length]) fun j q1 q2 => ?_)
      simp only [rotsR_length] at q2
      simp only [List.getElem_take, List.getElem_drop, gonesR, List.getElem_map, List.getElem_range, rotsR]
      rw [la_later (by omega), show F.length + j - F.length = j by omega, Nat.add_comm]
  refine ⟨?_, key⟩
  unfold spec_RotationsOf
  rw [boWishes_eq T w F ws f.1 f.2.1 f.2.2, Option.bind_some]
  cases c : wishedB T w F ws
  · simp [rR, c]
  · simp only [Bool.not_true, Bool.false_eq_true, if_false, key c, Option.bind_some]
    simp [rR, c]

theorem most_take (l : List Int) : ∀ (a : Int) (i : Nat) (h : i < l.length), mostOf a (l.take (i + 1)) = if l[i] > mostOf a (l.take i) then l[i] else mostOf a (l.take i) := by
  induction l with
  | nil => intro a i h; simp at h
  | cons x l ih =>
    intro a i h
    cases i with
    | zero => simp [mostOf]
    | succ i =>
      simp only [List.take_succ_cons, mostOf, List.getElem_cons_succ]
      exact ih _ i (by simpa using h)
theorem greatest_eq (l : List Int) (hl : l.length ≤ 1000000) : impl_greatest l = some (mostOf 0 l) := by
  have key := iter_to (step := impl_greatest_s1 l) (fun i => (mostOf 0 (l.take i), (i : Int))) l.length (r := mostOf 0 l)
    (fun i hi => by
      simp only [impl_greatest_s1, Int.ofNat_lt, hi, decide_true, if_true, at_some hi, Option.bind_some, w64_nat1 (show i ≤ 4611686018427387904 by omega), most_take l 0 i hi])
    (by simp [impl_greatest_s1])
  unfold impl_greatest impl_greatest_l1
  simp only [List.take_zero, mostOf, Int.natCast_zero] at key
  rw [key]
  rfl
theorem kMost_eq (l : List Int) (hl : l.length ≤ 1000000) : laws_kMost l = some (mostOf 0 l) := by
  have key := iter_to (step := laws_kMost_s1 l) (fun i => (mostOf 0 (l.take i), (i : Int))) l.length (r := mostOf 0 l)
    (fun i hi => by
      simp only [laws_kMost_s1, Int.ofNat_lt, hi, decide_true, if_true, at_some hi, Option.bind_some, laws_kMost_j2, w64_nat1 (show i ≤ 4611686018427387904 by omega), most_take l 0 i hi]
      by_cases c : l[i] > mostOf 0 (l.take i) <;> simp [c])
    (by simp [laws_kMost_s1])
  unfold laws_kMost laws_kMost_l1
  simp only [List.take_zero, mostOf, Int.natCast_zero] at key
  rw [key]
  rfl
theorem specMost_eq (l : List Int) (hl : l.length ≤ 1000000) : spec_GreatestRotation_l1 l (0, 0) = some (mostOf 0 l) := by
  have key := iter_to (step := spec_GreatestRotation_s1 l) (fun i => (mostOf 0 (l.take i), (i : Int))) l.length (r := mostOf 0 l)
    (fun i hi => by
      have hm : spec_l1Most (mostOf 0 (l.take i)) l[i] = some (if l[i] > mostOf 0 (l.take i) then l[i] else mostOf 0 (l.take i)) := by
        unfold spec_l1Most
        by_cases c : mostOf 0 (l.take i) > l[i]
        · rw [if_pos (by simpa using c), if_neg (by omega)]
        · rw [if_neg (by simpa using c)]
          split <;> first | rfl | exact congrArg some (by omega)
      simp only [spec_GreatestRotation_s1, Int.ofNat_lt, hi, decide_true, if_true, at_some hi, Option.bind_some, hm, w64_nat1 (show i ≤ 4611686018427387904 by omega), most_take l 0 i hi])
    (by simp [spec_GreatestRotation_s1])
  unfold spec_GreatestRotation_l1
  simp only [List.take_zero, mostOf, Int.natCast_zero] at key
  exact key
theorem rR_len : (rR T w F ws).1.length ≤ 240 := by
  unfold rR
  cases c : wishedB T w F ws
  · simp
  · simp only [if_true, rotsR_length]
    have := rots_len c
    omega
theorem greatest_i (f : Fit F ws) : impl_GreatestRotation (T, w, F) ws = some (gR T w F ws) := by
  unfold impl_GreatestRotation gR
  rw [rotationsOf_i f, Option.bind_some, greatest_eq _ (Nat.le_trans rR_len (by omega)), Option.bind_some]
theorem greatest_s (f : Fit F ws) : spec_GreatestRotation (T, w, F) ws = some (gR T w F ws) := by
  unfold spec_GreatestRotation gR
  rw [boWishes_eq T w F ws f.1 f.2.1 f.2.2, Option.bind_some]
  cases c : wishedB T w F ws
  · simp [rR, c, mostOf]
  · simp only [Bool.not_true, Bool.false_eq_true, if_false, (rotationsOf_s f).2 c, Option.bind_some]
    rw [specMost_eq _ (Nat.le_trans rR_len (by omega)), Option.bind_some]
    simp [rR, c]

def boundR (T w : Int) (F : List Int) : Int × Bool := if timedB T w F = true then (w64 (2 * T), true) else (0, false)
theorem bound_i (hl : F.length ≤ 1000000) : impl_RotationBound (T, w, F) = some (boundR T w F) := by
  unfold impl_RotationBound boundR
  rw [isTimed_eq T w F hl, Option.bind_some]
  cases timedB T w F <;> rfl
theorem bound_s (hl : F.length ≤ 1000000) : spec_RotationBound (T, w, F) = some (boundR T w F) := by
  unfold spec_RotationBound boundR
  rw [boTimed_eq T w F hl, Option.bind_some]
  cases timedB T w F <;> rfl
theorem timed_facts (h : timedB T w F = true) : (1 ≤ F.length ∧ F.length ≤ 12) ∧ (1 ≤ T ∧ T ≤ 200) ∧ (1 ≤ w ∧ w ≤ 20) ∧ (∀ x ∈ F, 0 ≤ x ∧ x ≤ 200) ∧ w * (F.length : Int) + F.sum ≤ T := by
  simp only [timedB, Bool.and_eq_true, decide_eq_true_eq, inB_iff] at h
  obtain ⟨g1, g2, g3, g4, g5⟩ := h
  exact ⟨by omega, g2, g3, all_in g4, g5⟩
def shareR (T w : Int) (F : List Int) : Int × Bool := if timedB T w F = true then (w64 (T - (w * (F.length : Int) + F.sum)), true) else (0, false)
theorem share_i (hl : F.length ≤ 1000000) : impl_FreeShare (T, w, F) = some (shareR T w F) := by
  unfold impl_FreeShare shareR
  rw [isTimed_eq T w F hl, Option.bind_some]
  cases c : timedB T w F
  · rfl
  · obtain ⟨h1, h2, h3, h4, h5⟩ := timed_facts c
    simp only [Bool.not_true, Bool.false_eq_true, if_false, busy_eq T w F (by omega) (by omega) h4, Option.bind_some, if_true]
theorem share_s (hl : F.length ≤ 1000000) : spec_FreeShare (T, w, F) = some (shareR T w F) := by
  unfold spec_FreeShare shareR
  rw [boTimed_eq T w F hl, Option.bind_some]
  cases c : timedB T w F
  · rfl
  · obtain ⟨h1, h2, h3, h4, h5⟩ := timed_facts c
    simp only [Bool.not_true, Bool.false_eq_true, if_false, used_eq T w F (by omega) (by omega) h4, Option.bind_some, if_true]
def fixedR (T w : Int) (F : List Int) (s n : Int) : Int × Bool :=
  if timedB T w F && (inB 0 (w64 ((F.length : Int) - 1)) s && inB 0 100000 n) then (w64 (F.getD s.toNat 0 * w64 (1 + w64 (Int.tdiv n (w64 (2 * T))))), true) else (0, false)
theorem fixed_i (hl : F.length ≤ 1000000) (s n : Int) : impl_FixedWithin (T, w, F) s n = some (fixedR T w F s n) := by
  unfold impl_FixedWithin fixedR
  simp only [isTimed_eq T w F hl, Option.bind_some, within_eq]
  cases c : timedB T w F
  · rfl
  · obtain ⟨h1, h2, h3, h4, h5⟩ := timed_facts c
    cases c2 : inB 0 (w64 ((F.length : Int) - 1)) s
    · rfl
    · have c2' := inB_iff.1 c2
      rw [w64_id (by omega) (by omega)] at c2'
      cases c3 : inB 0 100000 n
      · rfl
      · have : w64 (2 * T) ≠ 0 := by rw [w64_id (by omega) (by omega)]; omega
        simp only [Bool.not_true, Bool.false_eq_true, if_false, impl_FixedWithin_j1, at_getD 0 c2'.1 (show s < F.length by omega), nz_ok this, Option.bind_some, Bool.and_self, if_true]
theorem fixed_s (hl : F.length ≤ 1000000) (s n : Int) : spec_FixedWithin (T, w, F) s n = some (fixedR T w F s n) := by
  unfold spec_FixedWithin fixedR
  simp only [boTimed_eq T w F hl, Option.bind_some, l1In_eq]
  cases c : timedB T w F
  · rfl
  · obtain ⟨h1, h2, h3, h4, h5⟩ := timed_facts c
    cases c2 : inB 0 (w64 ((F.length : Int) - 1)) s
    · rfl
    · have c2' := inB_iff.1 c2
      rw [w64_id (by omega) (by omega)] at c2'
      cases c3 : inB 0 100000 n
      · rfl
      · have : w64 (2 * T) ≠ 0 := by rw [w64_id (by omega) (by omega)]; omega
        simp only [Bool.not_true, Bool.false_eq_true, if_false, spec_FixedWithin_j1, at_getD 0 c2'.1 (show s < F.length by omega), nz_ok this, Option.bind_some, Bool.and_self, if_true]

theorem kSame_self (l : List Int) (hl : l.length ≤ 1000000) : laws_kSame l l = some true := by
  have key := iter_to (step := laws_kSame_s1 l l) (fun i => (i : Int)) l.length (r := .inl ())
    (fun i hi => by
      simp only [laws_kSame_s1, Int.ofNat_lt, hi, decide_true, if_true, at_some hi, Option.bind_some, w64_nat1 (show i ≤ 4611686018427387904 by omega)]
      simp)
    (by simp [laws_kSame_s1])
  unfold laws_kSame laws_kSame_l1
  simp only [Int.natCast_zero] at key
  rw [key]
  simp
theorem kRows_self (l : List (List Int)) (hl : l.length ≤ 1000000) (hr : ∀ r ∈ l, r.length ≤ 1000000) : laws_kRows l l = some true := by
  have key := iter_to (step := laws_kRows_s1 l l) (fun i => (i : Int)) l.length (r := .inl ())
    (fun i hi => by
      simp only [laws_kRows_s1, Int.ofNat_lt, hi, decide_true, if_true, at_some hi, Option.bind_some, w64_nat1 (show i ≤ 4611686018427387904 by omega), kSame_self _ (hr _ (List.getElem_mem hi))]
      simp)
    (by simp [laws_kRows_s1])
  unfold laws_kRows laws_kRows_l1
  simp only [Int.natCast_zero] at key
  rw [key]
  simp
theorem mostOf_le (m : Int) : ∀ (l : List Int) (a : Int), a ≤ m → (∀ x ∈ l, x ≤ m) → mostOf a l ≤ m := by
  intro l
  induction l with
  | nil => intro a h _; exact h
  | cons x l ih =>
    intro a h hx
    simp only [mostOf]
    refine ih _ ?_ fun y hy => hx y (List.mem_cons_of_mem _ hy)
    have := hx x List.mem_cons_self
    split <;> omega
theorem great_le (h : wishedB T w F ws = true) : mostOf 0 (rR T w F ws).1 ≤ 2 * T := by
  have g := good_of h
  have := g.ht
  refine mostOf_le _ _ _ (by omega) fun x hx => ?_
  simp only [rR, h, if_true, rotsR, List.mem_map, List.mem_range] at hx
  obtain ⟨j, _, rfl⟩ := hx
  exact rot_le g j
end Tr
end Go.Proofs.Ytoeddkfbhjmbmaa.Ev.Q2
