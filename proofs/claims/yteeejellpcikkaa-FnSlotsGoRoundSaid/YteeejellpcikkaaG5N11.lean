/- Slot rings: messages are read as many ticks later as they have hops, and all by the bound; no condition but that bytes are bytes. -/
import Derived.Test.YteeejellpcikkaaG5M10
set_option linter.unusedVariables false
set_option linter.unusedSimpArgs false
namespace Go.Proofs.Yteeejellpcikkaa.Ev.G5
open Go
set_option linter.unusedSimpArgs false
set_option linter.unusedVariables false

/-! #### the greatest, and sums -/
def mx (a x : Int) : Int := if x > a then x else a
def mxL (l : List Int) : Int := l.foldl mx 0
theorem mx_pos {a x : Int} (h : x > a) : mx a x = x := if_pos h
theorem mx_neg {a x : Int} (h : ¬ x > a) : mx a x = a := if_neg h
theorem mx_le {a x b : Int} (h1 : a ≤ b) (h2 : x ≤ b) : mx a x ≤ b := by unfold mx; split <;> assumption
theorem fold_le {b : Int} : ∀ (l : List Int) (a : Int), a ≤ b → (∀ x ∈ l, x ≤ b) → l.foldl mx a ≤ b := by
  intro l
  induction l with
  | nil => intro a h _; exact h
  | cons x l ih => intro a h1 h2; exact ih _ (mx_le h1 (h2 x (by simp))) fun y hy => h2 y (by simp [hy])
theorem mxL_le {l : List Int} {b : Int} (h0 : 0 ≤ b) (h : ∀ x ∈ l, x ≤ b) : mxL l ≤ b := fold_le l 0 h0 h
theorem fold_take {l : List Int} {i : Nat} (h : i < l.length) : (l.take (i + 1)).foldl mx 0 = mx ((l.take i).foldl mx 0) l[i] := by
  rw [List.take_succ_eq_append_getElem h, List.foldl_append]; rfl

theorem greatest_eq (l : List Int) (hl : l.length ≤ 1000000) : impl_greatest l = some (mxL l) := by
  have key := iter_to (step := impl_greatest_s1 l) (fun i => ((l.take i).foldl mx 0, (i : Int))) l.length (r := mxL l) (by
    intro i hi
    unfold impl_greatest_s1
    dsimp only
    rw [if_pos (by simpa using hi), at_some hi, Option.bind_some, w64_nat1 (by omega), fold_take hi]
    rfl) (by
    unfold impl_greatest_s1
    dsimp only
    rw [if_neg (by simp), List.take_length]
    rfl)
  unfold impl_greatest impl_greatest_l1
  have e0 : ((0 : Nat) : Int) = 0 := rfl
  rw [e0] at key
  rw [show ((0 : Int), (0 : Int)) = ((l.take 0).foldl mx 0, (0 : Int)) by simp, key]
  rfl
theorem most_eq (l : List Int) (hl : l.length ≤ 1000000) : laws_kMost l = some (mxL l) := by
  have key := iter_to (step := laws_kMost_s1 l) (fun i => ((l.take i).foldl mx 0, (i : Int))) l.length (r := mxL l) (by
    intro i hi
    unfold laws_kMost_s1 laws_kMost_j2
    dsimp only
    rw [if_pos (by simpa using hi), at_some hi, Option.bind_some, w64_nat1 (by omega), fold_take hi]
    by_cases h : l[i] > (l.take i).foldl mx 0
    · rw [if_pos (by simpa using h), mx_pos h]
    · rw [if_neg (by simpa using h), mx_neg h]) (by
    unfold laws_kMost_s1
    dsimp only
    rw [if_neg (by simp), List.take_length]
    rfl)
  unfold laws_kMost laws_kMost_l1
  have e0 : ((0 : Nat) : Int) = 0 := rfl
  rw [e0] at key
  rw [show ((0 : Int), (0 : Int)) = ((l.take 0).foldl mx 0, (0 : Int)) by simp, key]
  rfl
theorem last_loop (v : Int × Bool × List Msg × List Int × List Int × List Int) (l : List Int) (hv : v.2.2.2.2.2 = l) (hl : l.length ≤ 1000000) : spec_LastRead_l1 v (0, 0) = some (mxL l) := by
  have key := iter_to (step := spec_LastRead_s1 v) (fun i => ((l.take i).foldl mx 0, (i : Int))) l.length (r := mxL l) (by
    intro i hi
    unfold spec_LastRead_s1 spec_l1Most
    dsimp only
    rw [hv, if_pos (by simpa using hi), at_some hi, Option.bind_some, w64_nat1 (by omega), fold_take hi]
    by_cases h : (l.take i).foldl mx 0 > l[i]
    · rw [if_pos (by simpa using h), Option.bind_some, mx_neg (by omega)]
    · rw [if_neg (by simpa using h), Option.bind_some]
      by_cases h2 : l[i] > (l.take i).foldl mx 0
      · rw [mx_pos h2]
      · have e : l[i] = (l.take i).foldl mx 0 := by omega
        rw [mx_neg h2, e]) (by
    unfold spec_LastRead_s1
    dsimp only
    rw [hv, if_neg (by simp), List.take_length]
    rfl)
  have e0 : ((0 : Nat) : Int) = 0 := rfl
  rw [e0] at key
  unfold spec_LastRead_l1
  rw [show ((0 : Int), (0 : Int)) = ((l.take 0).foldl mx 0, (0 : Int)) by simp]
  exact key

theorem sum_take {l : List Int} {i : Nat} (h : i < l.length) : (l.take (i + 1)).sum = (l.take i).sum + l[i] := by
  rw [List.take_succ_eq_append_getElem h, List.sum_append]; simp
theorem sum_take_range {B : Int} (hB : 0 ≤ B) {l : List Int} (h : ∀ x ∈ l, 0 ≤ x ∧ x ≤ B) : ∀ i : Nat, i ≤ l.length → 0 ≤ (l.take i).sum ∧ (l.take i).sum ≤ B * (i : Int) := by
  intro i
  induction i with
  | zero => intro _; simp
  | succ i ih =>
    intro hi
    have h1 := ih (by omega)
    have h2 := h l[i] (List.getElem_mem (by omega))
    rw [sum_take (by omega)]
    have e : B * ((i + 1 : Nat) : Int) = B * (i : Int) + B := by rw [Int.natCast_add, Int.mul_add]; simp
    omega
theorem sum_eq {l : List Int} (hl : l.length ≤ 1000) (h : ∀ x ∈ l, 0 ≤ x ∧ x ≤ 1000000) : laws_kSum l = some l.sum := by
  have key := iter_to (step := laws_kSum_s1 l) (fun i => ((l.take i).sum, (i : Int))) l.length (r := l.sum) (by
    intro i hi
    have h1 := sum_take_range (by omega) h (i + 1) (by omega)
    unfold laws_kSum_s1
    dsimp only
    rw [if_pos (by simpa using hi), at_some hi, Option.bind_some, w64_nat1 (by omega), ← sum_take hi, w64_id (by omega) (by omega)]) (by
    unfold laws_kSum_s1
    dsimp only
    rw [if_neg (by simp), List.take_length])
  unfold laws_kSum laws_kSum_l1
  have e0 : ((0 : Nat) : Int) = 0 := rfl
  rw [e0] at key
  rw [show ((0 : Int), (0 : Int)) = ((l.take 0).sum, (0 : Int)) by simp, key]
  rfl

namespace Rg
variable {g : Rg} {ms : List Msg}

/-- How many ticks the second program makes. -/
def T2 (g : Rg) : Nat := if g.L = 0 then 0 else g.T0 + 2 * g.n * (g.L + 1)
theorem T2_le (o : g.Ok) : g.T2 ≤ 700 ∧ g.E ≤ g.T2 := by
  have h1 := T0_le o
  have h2 := o.n12
  have h3 := o.L20
  have h4 : 2 * g.n * (g.L + 1) ≤ 24 * 21 := Nat.mul_le_mul (by omega) (by omega)
  unfold T2 E
  split
  · rename_i h
    have : g.T0 = 0 := by unfold T0; rw [if_pos h]
    rw [h, this]; omega
  · have : 2 * g.n * g.L ≤ 2 * g.n * (g.L + 1) := Nat.mul_le_mul_left _ (by omega)
    omega
theorem whole_ok (o : g.Ok) (hm : Fits g ms) : spec_slWhole ((g.n : Int), g.home) ms = some (g.stS ms g.T2) := by
  have h2 := o.n12
  have h3 := o.L20
  have hT := T2_le o
  have e : spec_slTicks ((g.n : Int), g.home) ms = some (g.T2 : Int) := by
    unfold spec_slTicks T2
    rw [hm.len]
    by_cases h : g.L = 0
    · rw [if_pos (by simp [h]), if_pos h]; rfl
    · have e1 : w64 ((g.L : Int) - 1) = ((g.L - 1 : Nat) : Int) := by rw [w64_id (by omega) (by omega)]; omega
      have h4 : 2 * g.n * (g.L + 1) ≤ 24 * 21 := Nat.mul_le_mul (by omega) (by omega)
      have e2 : (g.T0 : Nat) = g.tk (g.L - 1) := by unfold T0; rw [if_neg h]
      have h5 := T0_le o
      rw [if_neg (by simpa using h), if_neg h, e1, at_eq, hm.get _ (by omega), Option.bind_some]
      dsimp only
      rw [w64_id (x := 2 * (g.n : Int)) (by omega) (by omega), w64_nat1 (by omega)]
      have e3 : (2 : Int) * (g.n : Int) * ((g.L + 1 : Nat) : Int) = ((2 * g.n * (g.L + 1) : Nat) : Int) := by push_cast; rfl
      rw [e3, w64_id (x := ((2 * g.n * (g.L + 1) : Nat) : Int)) (by omega) (by omega), Option.bind_some, w64_id (by omega) (by omega), e2]
      rfl
  unfold spec_slWhole
  rw [e, Option.bind_some, spec_end_ok o hm (by omega)]
  rfl
theorem whole_late (o : g.Ok) : g.flL g.T2 = g.ftL ∧ g.rdL g.T2 = g.reL := late o fun i hi => (all_rd o hi).mono (T2_le o).2

theorem spec_filled (o : g.Ok) (hm : Fits g ms) : spec_FilledAt ((g.n : Int), g.home) ms = some (g.ftL, true) := by
  unfold spec_FilledAt
  rw [slAll_eq _ _ (ms_len o hm), slotted_of o hm, Option.bind_some, if_neg (by simp), whole_ok o hm, Option.bind_some]
  show some (g.flL g.T2, true) = _
  rw [(whole_late o).1]
theorem spec_read (o : g.Ok) (hm : Fits g ms) : spec_ReadAt ((g.n : Int), g.home) ms = some (g.reL, true) := by
  unfold spec_ReadAt
  rw [slAll_eq _ _ (ms_len o hm), slotted_of o hm, Option.bind_some, if_neg (by simp), whole_ok o hm, Option.bind_some]
  show some (g.rdL g.T2, true) = _
  rw [(whole_late o).2]
theorem impl_last (o : g.Ok) (hm : Fits g ms) : impl_LastRead ((g.n : Int), g.home) ms = some (mxL g.reL, true) := by
  unfold impl_LastRead
  rw [impl_read o hm, Option.bind_some, greatest_eq _ (by rw [reL_len]; have := o.L20; omega)]
  rfl
theorem spec_last (o : g.Ok) (hm : Fits g ms) : spec_LastRead ((g.n : Int), g.home) ms = some (mxL g.reL, true) := by
  unfold spec_LastRead
  rw [slAll_eq _ _ (ms_len o hm), slotted_of o hm, Option.bind_some, if_neg (by simp), whole_ok o hm, Option.bind_some, last_loop _ g.reL (whole_late o).2 (by rw [reL_len]; have := o.L20; omega)]
  rfl

/-! #### the bound -/
theorem tick_max (o : g.Ok) (hm : Fits g ms) : impl_SlotBound_l1 ms (0, 0) = some (g.T0 : Int) := by
  have hL := o.L20
  have key := iter_to (step := impl_SlotBound_s1 ms) (fun i => (if i = 0 then (0 : Int) else (g.tk (i - 1) : Int), (i : Int))) g.L (r := (g.T0 : Int)) (by
    intro i hi
    unfold impl_SlotBound_s1
    dsimp only
    rw [if_pos (by rw [hm.len]; simpa using hi), at_eq, hm.get i hi, Option.bind_some, w64_nat1 (by omega)]
    dsimp only
    congr 3
    rw [if_neg (show ¬ i + 1 = 0 by omega), show i + 1 - 1 = i by omega]
    by_cases h0 : i = 0
    · subst h0; simp; omega
    · rw [if_neg h0]
      have := o.mono (i - 1) i (by omega) hi
      split <;> omega) (by
    unfold impl_SlotBound_s1
    dsimp only
    rw [if_neg (by rw [hm.len]; simp)]
    unfold T0
    congr 2
    split <;> rfl)
  exact key
theorem bound_range (o : g.Ok) : 2 * g.n * g.L ≤ 480 := Nat.mul_le_mul (show 2 * g.n ≤ 24 by have := o.n12; omega) o.L20
theorem impl_bound (o : g.Ok) (hm : Fits g ms) : impl_SlotBound ((g.n : Int), g.home) ms = some (((g.T0 + 2 * g.n * g.L : Nat) : Int), true) := by
  have h1 := T0_le o
  have h2 := o.n12
  have h4 := bound_range o
  have e3 : (2 : Int) * (g.n : Int) * (g.L : Int) = ((2 * g.n * g.L : Nat) : Int) := by push_cast; rfl
  unfold impl_SlotBound
  rw [slotted_eq _ _ (ms_len o hm), slotted_of o hm, Option.bind_some, if_neg (by simp), tick_max o hm, Option.bind_some, hm.len]
  dsimp only
  rw [w64_id (x := 2 * (g.n : Int)) (by omega) (by omega), e3, w64_id (x := ((2 * g.n * g.L : Nat) : Int)) (by omega) (by omega), w64_id (by omega) (by omega)]
  rfl
theorem spec_bound (o : g.Ok) (hm : Fits g ms) : spec_SlotBound ((g.n : Int), g.home) ms = some (((g.T0 + 2 * g.n * g.L : Nat) : Int), true) := by
  have h1 := T0_le o
  have h2 := o.n12
  have h4 := bound_range o
  have h3 := o.L20
  have e3 : (2 : Int) * (g.n : Int) * (g.L : Int) = ((2 * g.n * g.L : Nat) : Int) := by push_cast; rfl
  unfold spec_SlotBound
  rw [slAll_eq _ _ (ms_len o hm), slotted_of o hm, Option.bind_some, if_neg (by simp), hm.len]
  by_cases h : g.L = 0
  · rw [if_pos (by simp [h])]
    have : g.T0 = 0 := by unfold T0; rw [if_pos h]
    rw [this, h]
    rfl
  · have e1 : w64 ((g.L : Int) - 1) = ((g.L - 1 : Nat) : Int) := by rw [w64_id (by omega) (by omega)]; omega
    have e2 : g.T0 = g.tk (g.L - 1) := by unfold T0; rw [if_neg h]
    rw [if_neg (by simpa using h), e1, at_eq, hm.get _ (by omega), Option.bind_some]
    dsimp only
    rw [w64_id (x := 2 * (g.n : Int)) (by omega) (by omega), e3, w64_id (x := ((2 * g.n * g.L : Nat) : Int)) (by omega) (by omega), ← e2, w64_id (by omega) (by omega)]
    rfl

/-! #### loads of links -/
def hopS (g : Rg) : Nat → Nat
  | 0 => 0
  | i + 1 => hopS g i + g.hop i
theorem hopS_le (o : g.Ok) : ∀ i, i ≤ g.L → g.hopS i ≤ 12 * i := by
  intro i
  induction i with
  | zero => intro _; simp [hopS]
  | succ i ih =>
    intro hi
    have := ih (by omega)
    have h1 := hop_range o (i := i) (by omega)
    have h2 := o.n12
    show g.hopS i + g.hop i ≤ _
    omega

theorem sum_set {l : List Int} {k : Nat} {v : Int} (hk : l[k]? = some v) : (l.set k (v + 1)).sum = l.sum + 1 := by
  induction l generalizing k with
  | nil => simp at hk
  | cons a l ih =>
    cases k with
    | zero => simp at hk; subst hk; simp; omega
    | succ k => simp at hk; simp [ih hk]; omega
theorem mem_set_le {l : List Int} {k : Nat} {v B : Int} (h : ∀ x ∈ l, 0 ≤ x ∧ x ≤ B) (hk : l[k]? = some v) : ∀ x ∈ l.set k (v + 1), 0 ≤ x ∧ x ≤ B + 1 := by
  intro x hx
  have hv := h v (List.mem_of_getElem? hk)
  rcases List.mem_or_eq_of_mem_set hx with hx | rfl
  · have := h x hx; omega
  · omega

/-- One message goes over its links. -/
theorem load_one (o : g.Ok) {i : Nat} (hi : i < g.L) (l : List Int) {B : Int} (hB : B ≤ 1000) (hl : l.length = g.n) (h : ∀ x ∈ l, 0 ≤ x ∧ x ≤ B) :
    ∃ l', impl_LoadOfLinks_l2 ((g.n : Int), g.home) ((g.tk i : Int), (g.fr i : Int), (g.to i : Int)) (l, (g.fr i : Int)) = some l' ∧ l'.length = g.n ∧ l'.sum = l.sum + (g.hop i : Int) ∧ ∀ x ∈ l', 0 ≤ x ∧ x ≤ B + 12 := by
  have h1 := o.fr i hi
  have h2 := o.to i hi
  have h3 := o.n2
  have h4 := o.n12
  have hh := hop_range o hi
  have key := iter_ex (step := impl_LoadOfLinks_s2 ((g.n : Int), g.home) ((g.tk i : Int), (g.fr i : Int), (g.to i : Int)))
    (fun m s => ∃ (j : Nat) (x : List Int), s = (x, (((g.fr i + j) % g.n : Nat) : Int)) ∧ j ≤ g.hop i ∧ m = g.hop i - j ∧ x.length = g.n ∧ x.sum = l.sum + (j : Int) ∧ ∀ y ∈ x, 0 ≤ y ∧ y ≤ B + (j : Int))
    (fun r => r.length = g.n ∧ r.sum = l.sum + (g.hop i : Int) ∧ ∀ y ∈ r, 0 ≤ y ∧ y ≤ B + 12) (by
    rintro m s ⟨j, x, rfl, hj, rfl, q1, q2, q3⟩
    unfold impl_LoadOfLinks_s2
    dsimp only
    have hto : (g.fr i + j) % g.n = g.to i ↔ j = g.hop i := by
      rw [md (by omega), hop_eq o hi]
      constructor
      · intro h; split at h <;> split <;> omega
      · intro h; split <;> split at h <;> omega
    have hlt : (g.fr i + j) % g.n < g.n := Nat.mod_lt _ (by omega)
    by_cases c : j = g.hop i
    · left
      rw [if_neg (by rw [hto.2 c]; simp)]
      exact ⟨_, rfl, q1, by rw [q2, c], fun y hy => by have := q3 y hy; omega⟩
    · right
      have hget : x[(g.fr i + j) % g.n]? = some (x[(g.fr i + j) % g.n]'(by omega)) := List.getElem?_eq_getElem (by omega)
      rw [if_pos (by
        have : ¬ (g.fr i + j) % g.n = g.to i := fun h => c (hto.1 h)
        simp only [bne_iff_ne]; omega), at_eq, hget, Option.bind_some, nz_ok (by omega), Option.bind_some]
      generalize hv : x[(g.fr i + j) % g.n]'(by omega) = v at hget
      have hvr := q3 v (List.mem_of_getElem? hget)
      rw [w64_id (x := v + 1) (by omega) (by omega), w64_nat1 (by omega), tmod_nat, Nat.mod_add_mod, show g.fr i + j + 1 = g.fr i + (j + 1) by omega]
      refine ⟨_, g.hop i - (j + 1), by omega, rfl, j + 1, _, rfl, by omega, rfl, by rw [List.length_set]; exact q1, ?_, ?_⟩
      · show (x.set ((g.fr i + j) % g.n) (v + 1)).sum = _
        rw [sum_set hget, q2]; omega
      · intro y hy
        have := mem_set_le q3 hget y hy
        omega) (g.hop i - 0) (l, (g.fr i : Int)) ⟨0, l, by rw [Nat.add_zero, Nat.mod_eq_of_lt h1], by omega, rfl, hl, by omega, fun y hy => by have := h y hy; omega⟩
  obtain ⟨r, r1, r2, r3, r4⟩ := key
  exact ⟨r, r1, r2, r3, r4⟩

theorem load_ok (o : g.Ok) (hm : Fits g ms) : ∃ l, impl_LoadOfLinks ((g.n : Int), g.home) ms = some (l, true) ∧ spec_LoadOfLinks ((g.n : Int), g.home) ms = some (l, true) ∧ l.length = g.n ∧ l.sum = (g.hopS g.L : Int) ∧ ∀ x ∈ l, 0 ≤ x ∧ x ≤ 1000000 := by
  have h3 := o.n2
  have h4 := o.n12
  have h5 := o.L20
  have key := iter_ex (step := impl_LoadOfLinks_s1 ((g.n : Int), g.home) ms)
    (fun m s => ∃ (i : Nat) (x : List Int), s = (x, (i : Int)) ∧ i ≤ g.L ∧ m = g.L - i ∧ x.length = g.n ∧ x.sum = (g.hopS i : Int) ∧ ∀ y ∈ x, 0 ≤ y ∧ y ≤ 12 * (i : Int))
    (fun r => r.length = g.n ∧ r.sum = (g.hopS g.L : Int) ∧ ∀ y ∈ r, 0 ≤ y ∧ y ≤ 1000000) (by
    rintro m s ⟨i, x, rfl, hi, rfl, q1, q2, q3⟩
    unfold impl_LoadOfLinks_s1
    dsimp only
    by_cases c : i < g.L
    · right
      obtain ⟨x', r1, r2, r3, r4⟩ := load_one o c x (B := 12 * (i : Int)) (by omega) q1 q3
      rw [if_pos (by rw [hm.len]; simpa using c), at_eq, hm.get i c, Option.bind_some, r1, Option.bind_some, w64_nat1 (by omega)]
      refine ⟨_, g.L - (i + 1), by omega, rfl, i + 1, x', rfl, by omega, rfl, r2, ?_, ?_⟩
      · rw [r3, q2]; show _ = ((g.hopS i + g.hop i : Nat) : Int); omega
      · intro y hy; have := r4 y hy; omega
    · left
      obtain rfl : i = g.L := by omega
      rw [if_neg (by rw [hm.len]; simp)]
      exact ⟨_, rfl, q1, q2, fun y hy => by have := q3 y hy; omega⟩) (g.L - 0) (List.replicate g.n 0, 0) ⟨0, _, rfl, by omega, rfl, by simp, by simp [hopS], fun y hy => by have := List.eq_of_mem_replicate hy; omega⟩
  obtain ⟨l, r1, r2, r3, r4⟩ := key
  refine ⟨l, ?_, ?_, r2, r3, r4⟩
  · unfold impl_LoadOfLinks impl_LoadOfLinks_l1
    rw [slotted_eq _ _ (ms_len o hm), slotted_of o hm, Option.bind_some, if_neg (by simp), mk_ok (by dsimp only; omega) (by omega) (by dsimp only; omega), Option.bind_some]
    dsimp only
    rw [show Int.toNat (g.n : Int) = g.n from rfl, r1]
    rfl
  · have e : spec_LoadOfLinks_s1 = impl_LoadOfLinks_s1 := rfl
    unfold spec_LoadOfLinks spec_LoadOfLinks_l1
    rw [slAll_eq _ _ (ms_len o hm), slotted_of o hm, Option.bind_some, if_neg (by simp), mk_ok (by dsimp only; omega) (by omega) (by dsimp only; omega), Option.bind_some, e]
    dsimp only
    rw [show Int.toNat (g.n : Int) = g.n from rfl, r1]
    rfl

/-! #### hops -/
theorem fifo (o : g.Ok) {k i : Nat} (hk : k < i) (hi : i < g.L) (h : g.fr k = g.fr i) : g.ft k < g.ft i := by
  have h1 := (ft_eq o hi).1
  obtain ⟨h2, h3⟩ := fl_back h1
  rcases nxt_some h2 with h4 | ⟨_, _, h5, _⟩
  · rw [h3] at h4; cases h4
  · have h6 := h5.2 k hk
    have h7 := o.mono k i (by omega) hi
    have h8 := h5.1.2.2.1
    cases hF : g.fl (g.ft i) k with
    | none => exact absurd ⟨by omega, h, by omega, hF⟩ h6
    | some f =>
      have := (fl_lt _ hF).1
      rw [fl_ft o hF] at this
      exact this
theorem tk_ft (o : g.Ok) {i : Nat} (hi : i < g.L) : g.tk i ≤ g.ft i := (fl_lt _ (ft_eq o hi).1).2.2
end Rg

theorem slotted_one (r : Int × Bool) (m : Msg) : slottedB r [m] = (inB 2 12 r.1 && msgB r.1 m) := by
  unfold slottedB allOk okAt aftB
  simp [List.range_succ]
theorem hops_one {r : Int × Bool} {m : Msg} (h : (inB 2 12 r.1 && msgB r.1 m) = true) : Int.tmod (w64 (w64 (m.2.2 - m.2.1) + r.1)) r.1 = (((m.2.2 - m.2.1 + r.1).toNat % r.1.toNat : Nat) : Int) ∧ 1 ≤ (m.2.2 - m.2.1 + r.1).toNat % r.1.toNat ∧ (((m.2.2 - m.2.1 + r.1).toNat % r.1.toNat : Nat) : Int) < r.1 := by
  simp only [msgB, Bool.and_eq_true, inB_iff, decide_eq_true_eq] at h
  obtain ⟨h1, ⟨⟨h2, h3⟩, h4⟩, h5⟩ := h
  rw [w64_id (x := r.1 - 1) (by omega) (by omega)] at h3 h4
  rw [w64_id (x := m.2.2 - m.2.1) (by omega) (by omega), w64_id (by omega) (by omega)]
  have e : Int.tmod (m.2.2 - m.2.1 + r.1) r.1 = (((m.2.2 - m.2.1 + r.1).toNat % r.1.toNat : Nat) : Int) := by
    have e1 : m.2.2 - m.2.1 + r.1 = ((m.2.2 - m.2.1 + r.1).toNat : Int) := by omega
    have e2 : r.1 = (r.1.toNat : Int) := by omega
    conv => lhs; rw [e1]
    conv => lhs; arg 2; rw [e2]
    exact Rg.tmod_nat _ _
  refine ⟨e, ?_⟩
  rw [md (by omega)]
  split <;> constructor <;> omega
theorem hops_both (r : Int × Bool) (m : Msg) : ∃ q, impl_HopsOfMessage r m = some q ∧ spec_HopsOfMessage r m = some q ∧ (q.2 = true → 1 ≤ q.1 ∧ q.1 < r.1) ∧ q.2 = (inB 2 12 r.1 && msgB r.1 m) ∧ (q.2 = true → q.1 = (((m.2.2 - m.2.1 + r.1).toNat % r.1.toNat : Nat) : Int)) := by
  unfold impl_HopsOfMessage spec_HopsOfMessage
  rw [slotted_eq _ _ (by simp), slotted_one, Option.bind_some, good_eq, Option.bind_some]
  cases h : (inB 2 12 r.1 && msgB r.1 m) with
  | false =>
    refine ⟨(0, false), by rw [if_pos (by rfl)], ?_, by simp, rfl, by simp⟩
    cases h1 : inB 2 12 r.1 with
    | false => simp [spec_HopsOfMessage_j1]
    | true =>
      rw [h1, Bool.true_and] at h
      rw [if_neg (by simp), msg_eq, Option.bind_some, h]
      simp [spec_HopsOfMessage_j1]
  | true =>
    obtain ⟨e, h2, h3⟩ := hops_one h
    have hh := h
    simp only [Bool.and_eq_true, inB_iff] at hh
    refine ⟨((((m.2.2 - m.2.1 + r.1).toNat % r.1.toNat : Nat) : Int), true), ?_, ?_, fun _ => ⟨?_, ?_⟩, rfl, fun _ => rfl⟩
    · rw [if_neg (by simp)]
      unfold impl_hops
      rw [nz_ok (by omega), Option.bind_some, e]
      rfl
    · simp only [Bool.and_eq_true] at h
      rw [h.1, if_neg (by simp), msg_eq, Option.bind_some, h.2]
      unfold spec_HopsOfMessage_j1
      rw [if_neg (by simp), nz_ok (by omega), Option.bind_some, e]
    · dsimp only; omega
    · exact h3
end Go.Proofs.Yteeejellpcikkaa.Ev.G5
