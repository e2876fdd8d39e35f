/- Shaping: what the reference sends, and delays; no condition but what each names. -/
import Derived.Test.YthecknnmfghilaaQ3M3
set_option linter.unusedVariables false
set_option linter.unusedSimpArgs false
namespace Go.Proofs.Ythecknnmfghilaa.Ev.Q3
open Go
set_option linter.unusedSimpArgs false
set_option linter.unusedVariables false
set_option maxHeartbeats 1000000
namespace Sh
variable {R D : Int} {t : List Int}

theorem least_eq (a b : Int) : spec_l1Least a b = some (mn a b) := by
  unfold spec_l1Least mn
  by_cases c : a < b <;> simp [c]
theorem mn_comm (a b : Int) : mn a b = mn b a := by unfold mn; split <;> split <;> omega

theorem send_step (o : Ok R D t) (i : Nat) (hi : i < 100) (hc : i < t.length ∨ bk R D t i > 0) :
    spec_shSend_s1 R D t (shapeR R D t i, leftR R D t i, lv R D t i, bk R D t i, (i : Int)) = some (.inl (shapeR R D t (i + 1), leftR R D t (i + 1), lv R D t (i + 1), bk R D t (i + 1), ((i + 1 : Nat) : Int))) := by
  have h1 := ok_step o i
  have h2 := ar_ok o i
  have h3 := xs_ok o i
  have h4 := ok_step o (i + 1)
  have hr := o.hr
  have hd := o.hd
  have j3 : ∀ q, q = bk R D t i + ar t i → spec_shSend_j3 R D (shapeR R D t i) (leftR R D t i) (lv R D t i) (i : Int) q = some (.inl (shapeR R D t (i + 1), leftR R D t (i + 1), lv R D t (i + 1), bk R D t (i + 1), ((i + 1 : Nat) : Int))) := by
    rintro q rfl
    unfold spec_shSend_j3
    rw [least_eq, Option.bind_some, show mn (bk R D t i + ar t i) (lv R D t i) = xs R D t i from rfl, app_ok (by rw [shape_length]; simp; omega), Option.bind_some, w64_id (x := bk R D t i + ar t i - xs R D t i) (by omega) (by omega), app_ok (by rw [left_length]; simp; omega), Option.bind_some,
      w64_id (x := lv R D t i - xs R D t i) (by omega) (by omega), w64_id (x := lv R D t i - xs R D t i + R) (by omega) (by omega), least_eq, Option.bind_some, mn_comm, ← lvS, ← bkS, ← shapeS, ← leftS, w64_nat1 (by omega)]
  have j2 : spec_shSend_j2 R D t (shapeR R D t i) (leftR R D t i) (lv R D t i) (bk R D t i) (i : Int) true = some (.inl (shapeR R D t (i + 1), leftR R D t (i + 1), lv R D t (i + 1), bk R D t (i + 1), ((i + 1 : Nat) : Int))) := by
    unfold spec_shSend_j2
    rw [if_pos rfl, if_neg (by simp; omega)]
    by_cases c : i < t.length
    · rw [if_pos (by simpa using c), tr_at i c, Option.bind_some]
      exact j3 _ (w64_id (by omega) (by omega))
    · rw [if_neg (by simpa using c)]
      exact j3 _ (by rw [ar_out (by omega), Int.add_zero])
  unfold spec_shSend_s1
  dsimp only
  by_cases c : i < t.length
  · rw [if_pos (by simpa using c)]; exact j2
  · rw [if_neg (by simpa using c), show decide (bk R D t i > 0) = true by simp; omega]; exact j2

theorem send_ends (o : Ok R D t) {N : Nat} (hN : N ≤ 100) (he : Ends R D t N) : spec_shSend R D t = some (shapeR R D t N, leftR R D t N, true) := by
  have key := iter_to (step := spec_shSend_s1 R D t) (fun i => (shapeR R D t i, leftR R D t i, lv R D t i, bk R D t i, (i : Int))) N (r := .inl (shapeR R D t N, leftR R D t N))
    (fun i hi => send_step o i (by omega) (he.2.2 i hi))
    (by
      have h1 := he.1
      have h2 := he.2.1
      unfold spec_shSend_s1
      dsimp only
      rw [if_neg (by simp; omega), h2]
      rfl)
  unfold spec_shSend spec_shSend_l1
  have : ((shapeR R D t 0, leftR R D t 0, lv R D t 0, bk R D t 0, ((0 : Nat) : Int)) : List Int × List Int × Int × Int × Int) = ([], [], D, 0, 0) := rfl
  rw [this] at key
  rw [key]
  rfl
theorem send_never (o : Ok R D t) (h : ∀ i, i ≤ 100 → i < t.length ∨ bk R D t i > 0) : spec_shSend R D t = some ([], [], false) := by
  have key := iter_to (step := spec_shSend_s1 R D t) (fun i => (shapeR R D t i, leftR R D t i, lv R D t i, bk R D t i, (i : Int))) 100 (r := .inr ([], [], false))
    (fun i hi => send_step o i (by omega) (h i (by omega)))
    (by
      have hm := o.hm
      have h1 := h 100 (by omega)
      unfold spec_shSend_s1 spec_shSend_j2
      dsimp only
      rw [if_neg (by simp; omega), show decide (bk R D t 100 > 0) = true by simp; omega, if_pos rfl, if_pos (by simp)])
  unfold spec_shSend spec_shSend_l1
  have : ((shapeR R D t 0, leftR R D t 0, lv R D t 0, bk R D t 0, ((0 : Nat) : Int)) : List Int × List Int × Int × Int × Int) = ([], [], D, 0, 0) := rfl
  rw [this] at key
  rw [key]
  rfl

/-! ### delays -/
theorem gone_mono (o : Ok R D t) {i j : Nat} (h : i ≤ j) : gone R D t i ≤ gone R D t j := by
  obtain ⟨d, rfl⟩ : ∃ d, j = i + d := ⟨j - i, by omega⟩
  clear h
  induction d with
  | zero => exact Int.le_refl _
  | succ d ih => have := xs_ok o (i + d); rw [← Nat.add_assoc, goneS]; omega
theorem came_mono (o : Ok R D t) {i j : Nat} (h : i ≤ j) : came t i ≤ came t j := by
  obtain ⟨d, rfl⟩ : ∃ d, j = i + d := ⟨j - i, by omega⟩
  clear h
  induction d with
  | zero => exact Int.le_refl _
  | succ d ih => have := ar_ok o (i + d); rw [← Nat.add_assoc, cameS]; omega
theorem came_ok (o : Ok R D t) (i : Nat) : 0 ≤ came t i ∧ came t i ≤ 1000 * (i : Int) := by
  induction i with
  | zero => simp [came]
  | succ i ih => have := ar_ok o i; rw [cameS]; omega
/-- The last of what comes at the tick j is sent at the tick k. -/
def Last (R D : Int) (t : List Int) (j k : Nat) : Prop := ar t j > 0 ∧ gone R D t k < came t (j + 1) ∧ came t (j + 1) ≤ gone R D t (k + 1)
instance (j k : Nat) : Decidable (Last R D t j k) := by unfold Last; infer_instance
theorem last_lt (o : Ok R D t) {j k : Nat} (h : Last R D t j k) : j < t.length ∧ j ≤ k := by
  obtain ⟨h1, h2, h3⟩ := h
  constructor
  · refine Nat.lt_of_not_le fun c => ?_
    rw [ar_out c] at h1; omega
  · refine Nat.le_of_not_lt fun c => ?_
    have a := came_gone (R := R) (D := D) (t := t) (k + 1)
    have b := (ok_step o (k + 1)).1
    have d := came_mono o (show k + 1 ≤ j by omega)
    rw [cameS] at h2 h3
    omega
/-- The greatest of the delays. -/
structure Most (p : Int → Prop) (v : Int) : Prop where
  nn : 0 ≤ v
  le : ∀ x, p x → x ≤ v
  is : v = 0 ∨ p v
theorem Most.uniq {p : Int → Prop} {v v' : Int} (h : Most p v) (k : Most p v') : v = v' := by
  have h1 := h.nn
  have h2 := k.nn
  rcases h.is with e | e <;> rcases k.is with e' | e'
  · omega
  · have := h.le _ e'; omega
  · have := k.le _ e; omega
  · have := h.le _ e'; have := k.le _ e; omega
theorem Most.start {p : Int → Prop} (h : ∀ x, ¬ p x) : Most p 0 := ⟨Int.le_refl _, fun x hx => absurd hx (h x), .inl rfl⟩
/-- One more. -/
theorem Most.more {p q : Int → Prop} {v x : Int} (h : Most p v) (hx : 0 ≤ x) (hq : ∀ y, q y ↔ p y ∨ y = x) : Most q (if x > v then x else v) := by
  have h1 := h.nn
  refine ⟨by split <;> omega, fun y hy => ?_, ?_⟩
  · rcases (hq y).1 hy with h2 | rfl
    · have := h.le y h2; split <;> omega
    · split <;> omega
  · by_cases c : x > v
    · rw [if_pos c]; exact .inr ((hq x).2 (.inr rfl))
    · rw [if_neg c]
      rcases h.is with e | e
      · exact .inl e
      · exact .inr ((hq v).2 (.inl e))
theorem Most.same {p q : Int → Prop} {v : Int} (h : Most p v) (hq : ∀ y, q y ↔ p y) : Most q v :=
  ⟨h.nn, fun y hy => h.le y ((hq y).1 hy), h.is.imp id (hq v).2⟩
/-- All delays. -/
def All (R D : Int) (t : List Int) (x : Int) : Prop := ∃ j k : Nat, Last R D t j k ∧ x = (k : Int) - (j : Int)
end Sh
end Go.Proofs.Ythecknnmfghilaa.Ev.Q3
