/- The law on rotations comes to true; no condition but that bytes are bytes. -/
import Derived.Test.YtoeddkfbhjmbmaaQ2M6
set_option linter.unusedVariables false
set_option linter.unusedSimpArgs false
namespace Go.Proofs.Ytoeddkfbhjmbmaa.Ev.Q2
open Go
set_option linter.unusedVariables false
set_option linter.unusedSimpArgs false
set_option maxHeartbeats 4000000
namespace Tr
variable {T w : Int} {F : List Int} {ws : List (List Int)}

theorem gone_eq (g : Good T w F ws) {i : Nat} (hi : i ≤ 240) : w64 (tk T w F ws i - la T w F ws i) = tk T w F ws i - la T w F ws i := by
  have := tk_ok g i
  have := la_ok g i hi
  exact w64_id (by omega) (by omega)

theorem tmod_nat (i n : Nat) : Int.tmod (i : Int) (n : Int) = ((i % n : Nat) : Int) := by rw [Int.tmod_eq_emod_of_nonneg (by omega)]; rfl
theorem tdiv_nat (i n : Nat) : Int.tdiv (i : Int) (n : Int) = ((i / n : Nat) : Int) := by rw [Int.tdiv_eq_ediv_of_nonneg (by omega)]; rfl

theorem walk_rounds (h : wishedB T w F ws = true) (x : List (List Int) × Bool) (y : List Int × Bool) (hx : x = (visitsR T w F ws (ws.length * F.length), true)) (hy : y = (rotsR T w F ws (ws.length * F.length - F.length), true)) :
    laws_FnTimedRotations_l11 ((T, w, F), ws) x y (0, 0) = some (.inl ()) := by
  subst hx hy
  have g := good_of h
  have hN := rots_len h
  have hn := g.hn
  have ht := g.ht
  have hw := g.hw
  have hNN : ∀ i, i < ws.length * F.length → i / F.length < ws.length ∧ i % F.length < F.length := fun i hi => ⟨Nat.div_lt_of_lt_mul (by rw [Nat.mul_comm]; exact hi), Nat.mod_lt _ (by omega)⟩
  generalize hM : ws.length * F.length = N at *
  refine iter_to (step := laws_FnTimedRotations_s11 ((T, w, F), ws) _ _) (fun i => (tk T w F ws i, (i : Int))) N ?_ ?_
  · intro i hi
    obtain ⟨hq, hs⟩ := hNN i hi
    have t1 := tk_ok g i
    have t2 := la_ok g i (by omega)
    have t3 := fx_ok g i
    have t4 := fr_ok g i
    have t5 := wish_ok g i
    have hrow : ws[i / F.length]? = some ws[i / F.length] := List.getElem?_eq_getElem hq
    have hws := g.hws
    have hwd : w64 ((i / F.length : Nat) : Int) = ((i / F.length : Nat) : Int) := by
      have a1 : ((i / F.length : Nat) : Int) < (ws.length : Int) := Int.ofNat_lt.2 hq
      have a2 : (0 : Int) ≤ ((i / F.length : Nat) : Int) := Int.natCast_nonneg _
      exact w64_id (by omega) (by omega)
    have hrl := (g.hrow _ (List.getElem_mem hq)).1
    have hwish : at? ws[i / F.length] ((i % F.length : Nat) : Int) = some (wish F ws i) := by
      rw [at_some (by omega), wish, List.getD_eq_getElem?_getD, List.getD_eq_getElem?_getD, hrow, Option.getD_some, List.getElem?_eq_getElem (by omega)]; rfl
    have hfx : at? F ((i % F.length : Nat) : Int) = some (fx F i) := by
      rw [at_some hs, fx, List.getD_eq_getElem?_getD, List.getElem?_eq_getElem hs]; rfl
    have r0 : at? (rowAt T w F ws i) 0 = some (tk T w F ws i) := rfl
    have r1 : at? (rowAt T w F ws i) 1 = some ((i % F.length : Nat) : Int) := rfl
    have r2 : at? (rowAt T w F ws i) 2 = some (fr T w F ws i) := rfl
    have rl : (rowAt T w F ws i).length = 3 := rfl
    have h13 : laws_FnTimedRotations_j13 ((T, w, F), ws) (tk T w F ws i) (i : Int) (rowAt T w F ws i) (tk T w F ws i - la T w F ws i) = some (.inl (tk T w F ws (i + 1), ((i + 1 : Nat) : Int))) := by
      have h14 : laws_FnTimedRotations_j14 ((T, w, F), ws) (tk T w F ws i) (i : Int) (rowAt T w F ws i) false = some (.inl (tk T w F ws (i + 1), ((i + 1 : Nat) : Int))) := by
        unfold laws_FnTimedRotations_j14
        simp only [Bool.false_eq_true, if_false, tmod_nat, hfx, Option.bind_some, r2, w64_nat1 (show i ≤ 4611686018427387904 by omega)]
        rw [w64_id (x := fx F i + fr T w F ws i) (by omega) (by omega), w64_id (x := fx F i + fr T w F ws i + w) (by omega) (by omega), w64_id (by omega) (by omega), tk_succ]
        congr 3
        omega
      unfold laws_FnTimedRotations_j13
      rw [r2, Option.bind_some]
      by_cases c : fr T w F ws i > 0
      · have := fr_pos g i c
        rw [if_pos (by simpa using c), show decide (w64 (fr T w F ws i + (tk T w F ws i - la T w F ws i)) > T) = false by rw [w64_id (by omega) (by omega)]; simp; omega]
        exact h14
      · rw [if_neg (by simpa using c)]
        exact h14
    have h12 : laws_FnTimedRotations_j12 ((T, w, F), ws) (visitsR T w F ws N, true) (rotsR T w F ws (N - F.length), true) (tk T w F ws i) (i : Int) (rowAt T w F ws i) false = some (.inl (tk T w F ws (i + 1), ((i + 1 : Nat) : Int))) := by
      unfold laws_FnTimedRotations_j12
      simp only [Bool.false_eq_true, if_false, r0, Option.bind_some, tmod_nat]
      by_cases c : F.length ≤ i
      · have e2 : w64 ((i : Int) - (F.length : Int)) = ((i - F.length : Nat) : Int) := by rw [w64_id (by omega) (by omega)]; omega
        rw [if_pos (by simp; omega), e2, visitsR_at N _ (by omega), Option.bind_some, show at? (rowAt T w F ws (i - F.length)) 0 = some (tk T w F ws (i - F.length)) from rfl, Option.bind_some,
          at_some (by rw [rotsR_length]; omega), Option.bind_some]
        have hl := la_later (T := T) (w := w) (F := F) (ws := ws) (i := i) (by omega)
        have t6 := tk_ok g (i - F.length)
        rw [← hl, gone_eq g (by omega)]
        rw [if_neg (by simp [rotsR, hl]; rw [show i - F.length + F.length = i by omega])]
        exact h13
      · rw [if_neg (by simp; omega), Nat.mod_eq_of_lt (by omega), ahead_w hn.2 (by omega) hw, ← la_first (T := T) (ws := ws) (by omega), gone_eq g (by omega)]
        exact h13
    simp only [laws_FnTimedRotations_s11, visitsR_length, Int.ofNat_lt, hi, decide_true, if_true, visitsR_at N i hi, Option.bind_some, nz_ok (show (F.length : Int) ≠ 0 by omega), rl, r0, r1, r2, tmod_nat, tdiv_nat]
    rw [if_neg (by simp), if_neg (by simp), if_neg (by simp), if_neg (by simp; omega), hwd, at_some hq, Option.bind_some, hwish, Option.bind_some, show decide (fr T w F ws i > wish F ws i) = false by simp; omega]
    exact h12
  · simp [laws_FnTimedRotations_s11, visitsR_length]

/-- What is counted of the first q visits of a station from the visit i on. -/
def Cn (t : Nat → Int) (n i : Nat) (lim f : Int) : Nat → Int
  | 0 => 0
  | q + 1 => Cn t n i lim f q + if t (i + q * n) ≤ lim then f else 0
theorem Cn_facts (t : Nat → Int) (n i : Nat) (lim f : Int) (hf : 0 ≤ f ∧ f ≤ 200) : ∀ q : Nat, 0 ≤ Cn t n i lim f q ∧ Cn t n i lim f q ≤ 200 * (q : Int) := by
  intro q
  induction q with
  | zero => simp [Cn]
  | succ q ih => simp only [Cn]; split <;> omega
theorem Cn_mono (t : Nat → Int) (n i : Nat) (lim f : Int) (hf : 0 ≤ f) {p q : Nat} (h : p ≤ q) : Cn t n i lim f p ≤ Cn t n i lim f q := by
  obtain ⟨d, rfl⟩ : ∃ d, q = p + d := ⟨q - p, by omega⟩
  clear h
  induction d with
  | zero => exact Int.le_refl _
  | succ d ih => rw [← Nat.add_assoc]; simp only [Cn]; split <;> omega
theorem Cn_all (t : Nat → Int) (n i : Nat) (lim f : Int) : ∀ p : Nat, (∀ q, q < p → t (i + q * n) ≤ lim) → Cn t n i lim f p = f * (p : Int) := by
  intro p
  induction p with
  | zero => intro h; simp [Cn]
  | succ p ih =>
    intro h
    simp only [Cn]
    rw [ih fun q hq => h q (by omega), if_pos (h p (by omega)), Int.natCast_add, Int.mul_add]
    simp

theorem count_loop (g : Good T w F ws) {N : Nat} (hN : N ≤ 240) (at' : Nat) (hat : at' < F.length) (sp t0 : Int) (hsum : w64 (t0 + sp) = t0 + sp) (i : Nat) (hi : i < N) :
    ∃ q : Nat, N ≤ i + q * F.length ∧ laws_FnTimedRotations_l7 ((T, w, F), ws) (visitsR T w F ws N, true) (at' : Int) sp t0 (0, (i : Int)) = some (Cn (tk T w F ws) F.length i (t0 + sp) (F.getD at' 0) q) := by
  have hn := g.hn
  have hf := getD_ok g.hf at'
  have hfat : at? F (at' : Int) = some (F.getD at' 0) := by rw [at_some hat, List.getD_eq_getElem?_getD, List.getElem?_eq_getElem hat]; rfl
  have key := iter_ex (step := laws_FnTimedRotations_s7 ((T, w, F), ws) (visitsR T w F ws N, true) (at' : Int) sp t0)
    (fun m x => ∃ q : Nat, x = (Cn (tk T w F ws) F.length i (t0 + sp) (F.getD at' 0) q, ((i + q * F.length : Nat) : Int)) ∧ m = 2 * N - (i + q * F.length) ∧ q ≤ i + q * F.length ∧ i + q * F.length < N + F.length)
    (fun r => ∃ q : Nat, N ≤ i + q * F.length ∧ r = Cn (tk T w F ws) F.length i (t0 + sp) (F.getD at' 0) q) (by
      rintro m x ⟨q, rfl, rfl, hq1, hq2⟩
      have hc := Cn_facts (tk T w F ws) F.length i (t0 + sp) (F.getD at' 0) hf q
      by_cases c : i + q * F.length < N
      · right
        have e1 : i + (q + 1) * F.length = i + q * F.length + F.length := by rw [Nat.succ_mul]; omega
        have e2 : w64 (((i + q * F.length : Nat) : Int) + (F.length : Int)) = ((i + (q + 1) * F.length : Nat) : Int) := by rw [w64_id (by omega) (by omega), e1]; omega
        refine ⟨(Cn (tk T w F ws) F.length i (t0 + sp) (F.getD at' 0) (q + 1), ((i + (q + 1) * F.length : Nat) : Int)), 2 * N - (i + (q + 1) * F.length), by omega, ?_, q + 1, rfl, rfl, by omega, by omega⟩
        simp only [laws_FnTimedRotations_s7, visitsR_length, Int.ofNat_lt, c, decide_true, if_true, visitsR_at N _ c, Option.bind_some]
        rw [show at? (rowAt T w F ws (i + q * F.length)) 0 = some (tk T w F ws (i + q * F.length)) from rfl, Option.bind_some, hsum]
        simp only [Cn]
        by_cases d : tk T w F ws (i + q * F.length) ≤ t0 + sp
        · rw [if_pos (by simpa using d), hfat, Option.bind_some, if_pos d]
          unfold laws_FnTimedRotations_j8
          dsimp only
          rw [e2, w64_id (by omega) (by omega)]
        · rw [if_neg (by simpa using d), if_neg d]
          unfold laws_FnTimedRotations_j8
          dsimp only
          rw [e2, Int.add_zero]
      · left
        refine ⟨_, ?_, q, by omega, rfl⟩
        simp only [laws_FnTimedRotations_s7, visitsR_length]
        rw [if_neg (by simp; omega)]) _ (0, (i : Int)) ⟨0, by simp [Cn], rfl, by omega, by omega⟩
  obtain ⟨r, h1, q, h2, rfl⟩ := key
  exact ⟨q, h2, h1⟩

theorem walk_spans (h : wishedB T w F ws = true) : laws_FnTimedRotations_l4 ((T, w, F), ws) (visitsR T w F ws (ws.length * F.length), true) 0 = some (.inl ()) := by
  have g := good_of h
  have hN := rots_len h
  have hn := g.hn
  have ht := g.ht
  have hT : timedB T w F = true := by simp only [wishedB, Bool.and_eq_true] at h; exact h.1
  generalize hM : ws.length * F.length = N at *
  refine iter_to (step := laws_FnTimedRotations_s4 ((T, w, F), ws) _) (fun i => (i : Int)) N ?_ ?_
  · intro i hi
    have hs : i % F.length < F.length := Nat.mod_lt _ (by omega)
    have t1 := tk_ok g i
    have t9 := tk_ok g (N - 1)
    have r0 : at? (rowAt T w F ws i) 0 = some (tk T w F ws i) := rfl
    have r1 : at? (rowAt T w F ws i) 1 = some ((i % F.length : Nat) : Int) := rfl
    have e2 : w64 (2 * T) = 2 * T := w64_id (by omega) (by omega)
    have e5 : w64 (5 * T) = 5 * T := w64_id (by omega) (by omega)
    have one : ∀ (j : Nat) (sp : Int), at? [(0 : Int), 2 * T, 5 * T] (j : Int) = some sp → 0 ≤ sp → sp ≤ 1000 → j < 3 → laws_FnTimedRotations_s5 ((T, w, F), ws) (visitsR T w F ws N, true) (i : Int) (rowAt T w F ws i) ((i % F.length : Nat) : Int) 3 (j : Int) = some (.inl ((j + 1 : Nat) : Int)) := by
      intro j sp hsp h0 h1 hj
      have hlast : w64 ((N : Int) - 1) = ((N - 1 : Nat) : Int) := by rw [w64_id (by omega) (by omega)]; omega
      have hsum : w64 (tk T w F ws i + sp) = tk T w F ws i + sp := w64_id (by omega) (by omega)
      have hj6 : laws_FnTimedRotations_j6 (j : Int) () = some (.inl ((j + 1 : Nat) : Int)) := by
        unfold laws_FnTimedRotations_j6
        rw [w64_nat1 (by omega)]
      simp only [laws_FnTimedRotations_s5, e2, e5, show ((j : Int) < 3) by omega, decide_true, if_true, hsp, Option.bind_some, r0, visitsR_length, hlast, visitsR_at N (N - 1) (by omega)]
      rw [show at? (rowAt T w F ws (N - 1)) 0 = some (tk T w F ws (N - 1)) from rfl, Option.bind_some, hsum]
      by_cases c : tk T w F ws i + sp > tk T w F ws (N - 1)
      · rw [if_pos (by simpa using c)]
        exact hj6
      · rw [if_neg (by simpa using c), fixed_i (by omega), Option.bind_some]
        obtain ⟨q, hq, hl⟩ := count_loop g hN (i % F.length) hs sp (tk T w F ws i) hsum i hi
        rw [hl, Option.bind_some]
        have hp : ∃ p : Nat, Int.tdiv sp (2 * T) = (p : Int) ∧ 2 * T * (p : Int) ≤ sp ∧ p ≤ 1000 := by
          refine ⟨(Int.tdiv sp (2 * T)).toNat, ?_, ?_, ?_⟩
          · have := Int.tdiv_nonneg h0 (show 0 ≤ 2 * T by omega); omega
          · have h2 := Int.tdiv_nonneg h0 (show 0 ≤ 2 * T by omega)
            rw [Int.toNat_of_nonneg h2]
            rw [Int.tdiv_eq_ediv_of_nonneg h0]
            exact Int.mul_ediv_self_le (by omega)
          · have h2 := Int.tdiv_nonneg h0 (show 0 ≤ 2 * T by omega)
            have h3 : Int.tdiv sp (2 * T) ≤ sp := by
              rw [Int.tdiv_eq_ediv_of_nonneg h0]
              exact Int.ediv_le_self _ h0
            omega
        obtain ⟨p, hp1, hp2, hp3⟩ := hp
        have hf := getD_ok g.hf (i % F.length)
        have hmul : 0 ≤ F.getD (i % F.length) 0 * ((p + 1 : Nat) : Int) ∧ F.getD (i % F.length) 0 * ((p + 1 : Nat) : Int) ≤ 300000 := by
          constructor
          · exact Int.mul_nonneg hf.1 (by omega)
          · calc F.getD (i % F.length) 0 * ((p + 1 : Nat) : Int) ≤ 200 * ((p + 1 : Nat) : Int) := Int.mul_le_mul_of_nonneg_right hf.2 (by omega)
              _ ≤ 300000 := by omega
        have hfix : fixedR T w F ((i % F.length : Nat) : Int) sp = (F.getD (i % F.length) 0 * ((p + 1 : Nat) : Int), true) := by
          unfold fixedR
          rw [hT, show inB 0 (w64 ((F.length : Int) - 1)) ((i % F.length : Nat) : Int) = true by rw [w64_id (by omega) (by omega)]; exact inB_iff.2 (by omega), show inB 0 100000 sp = true from inB_iff.2 (by omega)]
          simp only [Bool.and_self, if_true, Int.toNat_natCast, e2, hp1]
          rw [w64_id (x := (p : Int)) (by omega) (by omega), show w64 (1 + (p : Int)) = ((p + 1 : Nat) : Int) by rw [w64_id (by omega) (by omega)]; omega, w64_id (by omega) (by omega)]
        rw [hfix]
        simp only [Bool.not_true, Bool.false_eq_true, if_false]
        have hfit : ∀ q', q' < p + 1 → tk T w F ws (i + q' * F.length) ≤ tk T w F ws i + sp := by
          intro q' hq'
          have h1 := rots_le g i q'
          have h2 : 2 * T * (q' : Int) ≤ 2 * T * (p : Int) := Int.mul_le_mul_of_nonneg_left (by omega) (by omega)
          omega
        have hpN := (visits_fit g (i := i) (N := N) (q := p) (sp := sp) (by omega) hi hp2).1
        have hpq : p + 1 ≤ q := by
          refine Nat.lt_of_not_le fun c' => ?_
          have : q * F.length ≤ p * F.length := Nat.mul_le_mul_right _ c'
          omega
        have hge := Cn_mono (tk T w F ws) F.length i (tk T w F ws i + sp) (F.getD (i % F.length) 0) hf.1 hpq
        rw [Cn_all _ _ _ _ _ (p + 1) hfit] at hge
        rw [show decide (Cn (tk T w F ws) F.length i (tk T w F ws i + sp) (F.getD (i % F.length) 0) q < F.getD (i % F.length) 0 * ((p + 1 : Nat) : Int)) = false by simp only [decide_eq_false_iff_not]; omega]
        unfold laws_FnTimedRotations_j9
        simp only [Bool.false_eq_true, if_false]
        exact hj6
    have three : laws_FnTimedRotations_l5 ((T, w, F), ws) (visitsR T w F ws N, true) (i : Int) (rowAt T w F ws i) ((i % F.length : Nat) : Int) 3 0 = some (.inl ()) := by
      refine iter_to (step := laws_FnTimedRotations_s5 ((T, w, F), ws) (visitsR T w F ws N, true) (i : Int) (rowAt T w F ws i) ((i % F.length : Nat) : Int) 3) (fun j => (j : Int)) 3 ?_ ?_
      · intro j hj
        have : j = 0 ∨ j = 1 ∨ j = 2 := by omega
        rcases this with rfl | rfl | rfl
        · exact one 0 0 rfl (by omega) (by omega) (by omega)
        · exact one 1 (2 * T) rfl (by omega) (by omega) (by omega)
        · exact one 2 (5 * T) rfl (by omega) (by omega) (by omega)
      · simp [laws_FnTimedRotations_s5]
    simp only [laws_FnTimedRotations_s4, visitsR_length, Int.ofNat_lt, hi, decide_true, if_true, visitsR_at N i hi, Option.bind_some, r1]
    rw [show ((List.length [(0 : Int), w64 (2 * T), w64 (5 * T)] : Nat) : Int) = 3 from rfl, three]
    simp only [Option.bind_some]
    rw [w64_nat1 (by omega)]
  · simp [laws_FnTimedRotations_s4, visitsR_length]

theorem rotations_law (p0 p1 : List Int) (h0 : ∀ x ∈ p0, 0 ≤ x ∧ x < 256) (h1 : ∀ x ∈ p1, 0 ≤ x ∧ x < 256) : laws_FnTimedRotations p0 p1 = some true := by
  have hbig : ∃ b, laws_big p0 p1 = some b ∧ (b = false → Bytes p0 ∧ Bytes p1) := by
    unfold laws_big
    by_cases c : (p0.length : Int) > 1048576
    · rw [if_pos (by simpa using c)]
      exact ⟨true, rfl, by simp⟩
    · rw [if_neg (by simpa using c)]
      refine ⟨_, rfl, fun hb => ?_⟩
      rw [w64_id (by omega) (by omega)] at hb
      simp at hb
      exact ⟨⟨h0, by omega⟩, ⟨h1, by omega⟩⟩
  obtain ⟨b, hb, hB⟩ := hbig
  unfold laws_FnTimedRotations
  rw [hb, Option.bind_some]
  cases b
  case true => rfl
  obtain ⟨B0, B1⟩ := hB rfl
  obtain ⟨T, w, F, ws, e, f1, f2, f3⟩ := drawTimed_ok B0
  have f : Fit F ws := ⟨by omega, by omega, fun r hr => by have := f3 r hr; omega⟩
  have hl : F.length ≤ 1000000 := f.1
  simp only [Bool.false_eq_true, if_false, e, Option.bind_some, timedVisits_i f, timedVisits_s f, rotationsOf_i f, (rotationsOf_s f).1, greatest_i f, greatest_s f, bound_i hl, bound_s hl, share_i hl, share_s hl, isTimed_eq T w F hl]
  have hvlen : (vR T w F ws).1.length ≤ 1000000 ∧ ∀ r ∈ (vR T w F ws).1, r.length ≤ 1000000 := by
    unfold vR
    cases c : wishedB T w F ws
    · simp
    · simp only [if_true, visitsR_length]
      refine ⟨by have := rots_len c; omega, fun r hr => ?_⟩
      simp only [visitsR, List.mem_map] at hr
      obtain ⟨j, _, rfl⟩ := hr
      simp [rowAt]
  simp only [beq_self_eq_true, Bool.not_true, Bool.false_eq_true, if_false, kRows_self _ hvlen.1 hvlen.2, kSame_self _ (Nat.le_trans rR_len (show 240 ≤ 1000000 by omega)), Option.bind_some, bne_self_eq_false]
  have q1 : (rR T w F ws).2 = (vR T w F ws).2 := by unfold rR vR; split <;> rfl
  have q2 : (gR T w F ws).2 = (vR T w F ws).2 := q1
  have q3 : (boundR T w F).2 = timedB T w F := by unfold boundR; cases timedB T w F <;> rfl
  have q4 : (shareR T w F).2 = timedB T w F := by unfold shareR; cases timedB T w F <;> rfl
  simp only [q1, q2, q3, q4, beq_self_eq_true, Bool.not_true, Bool.false_eq_true, if_false]
  -- the second half
  have j3 : laws_FnTimedRotations_l4 ((T, w, F), ws) (vR T w F ws) 0 = some (.inl ()) → laws_FnTimedRotations_j2 p1 ((T, w, F), ws) (vR T w F ws) () = some true := by
    intro hl4
    obtain ⟨t2, w2, l2, x, y, e2, g2⟩ := drawFixed_ok B1
    unfold laws_FnTimedRotations_j2
    simp only [e2, Option.bind_some, fixed_i (T := t2) (w := w2) (F := l2) (by omega) x y, fixed_s (T := t2) (w := w2) (F := l2) (by omega) x y, beq_self_eq_true, Bool.not_true, Bool.false_eq_true, if_false, bne_self_eq_false]
    unfold laws_FnTimedRotations_j3
    simp only [Bool.false_eq_true, if_false, hl4, Option.bind_some]
  unfold laws_FnTimedRotations_j1
  cases c : wishedB T w F ws
  · have v : vR T w F ws = ([], false) := by unfold vR; rw [c]; rfl
    rw [v] at j3 ⊢
    simp only [Bool.false_eq_true, if_false]
    exact j3 (iter_stop (by simp [laws_FnTimedRotations_s4]))
  · have hT : timedB T w F = true := by have c' := c; simp only [wishedB, Bool.and_eq_true] at c'; exact c'.1
    have g := good_of c
    have ht := g.ht
    have hn := g.hn
    have v : vR T w F ws = (visitsR T w F ws (ws.length * F.length), true) := by unfold vR; rw [c]; rfl
    have r : rR T w F ws = (rotsR T w F ws (ws.length * F.length - F.length), true) := by unfold rR; rw [c]; rfl
    have hgl := great_le c
    have hb2 : (boundR T w F).1 = 2 * T := by unfold boundR; rw [hT]; exact w64_id (by omega) (by omega)
    have hg1 : (gR T w F ws).1 = mostOf 0 (rR T w F ws).1 := rfl
    have hj3 := j3 (by rw [v]; exact walk_spans c)
    simp only [v, hT, if_true, Bool.not_true, Bool.false_eq_true, if_false]
    rw [kMost_eq _ (Nat.le_trans rR_len (show 240 ≤ 1000000 by omega)), Option.bind_some, hg1, if_neg (by simp), hb2, if_neg (by simp; omega)]
    have hlen : ((((visitsR T w F ws (ws.length * F.length)).length : Nat) : Int) != w64 ((F.length : Int) * (ws.length : Int))) = false := by
      rw [visitsR_length]
      have h240 := rots_len c
      have e : (F.length : Int) * (ws.length : Int) = ((ws.length * F.length : Nat) : Int) := by rw [Int.natCast_mul, Int.mul_comm]
      rw [e, w64_id (by omega) (by omega)]
      simp
    rw [hlen]
    unfold laws_FnTimedRotations_j10
    simp only [Bool.false_eq_true, if_false]
    rw [walk_rounds c _ _ rfl r, Option.bind_some]
    dsimp only
    rw [v] at hj3
    exact hj3
end Tr
end Go.Proofs.Ytoeddkfbhjmbmaa.Ev.Q2
