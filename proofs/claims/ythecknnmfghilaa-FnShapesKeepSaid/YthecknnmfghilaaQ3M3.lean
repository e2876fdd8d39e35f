/- Shaping as a sequence of ticks; no condition but what each names. -/
import Derived.Test.YthecknnmfghilaaQ3M2
set_option linter.unusedVariables false
set_option linter.unusedSimpArgs false
namespace Go.Proofs.Ythecknnmfghilaa.Ev.Q3
open Go
set_option linter.unusedSimpArgs false
set_option linter.unusedVariables false
namespace Sh
/-- What comes at a tick. -/
def ar (t : List Int) (i : Nat) : Int := t.getD i 0
def mn (a b : Int) : Int := if a < b then a else b
/-- Backlog and level ahead of a tick; what the tick sends. -/
def st (R D : Int) (t : List Int) : Nat → Int × Int
  | 0 => (0, D)
  | i + 1 => let p := st R D t i
    let x := mn (p.1 + ar t i) p.2
    (p.1 + ar t i - x, mn (p.2 - x + R) D)
def bk (R D : Int) (t : List Int) (i : Nat) : Int := (st R D t i).1
def lv (R D : Int) (t : List Int) (i : Nat) : Int := (st R D t i).2
def xs (R D : Int) (t : List Int) (i : Nat) : Int := mn (bk R D t i + ar t i) (lv R D t i)
variable {R D : Int} {t : List Int}
theorem bk0 : bk R D t 0 = 0 := rfl
theorem lv0 : lv R D t 0 = D := rfl
theorem bkS (i : Nat) : bk R D t (i + 1) = bk R D t i + ar t i - xs R D t i := rfl
theorem lvS (i : Nat) : lv R D t (i + 1) = mn (lv R D t i - xs R D t i + R) D := rfl
theorem mn_le {a b : Int} : mn a b ≤ a ∧ mn a b ≤ b := by unfold mn; split <;> omega
theorem mn_or (a b : Int) : mn a b = a ∨ mn a b = b := by unfold mn; split <;> simp
theorem mn_eq {a b x : Int} : x ≤ a → x ≤ b → x ≤ mn a b := by unfold mn; split <;> omega

structure Ok (R D : Int) (t : List Int) : Prop where
  hr : 1 ≤ R ∧ R ≤ 100
  hd : 1 ≤ D ∧ D ≤ 1000
  ht : ∀ x ∈ t, 0 ≤ x ∧ x ≤ 1000
  hm : t.length ≤ 40

theorem ar_ok (o : Ok R D t) (i : Nat) : 0 ≤ ar t i ∧ ar t i ≤ 1000 := by
  unfold ar
  rw [List.getD_eq_getElem?_getD]
  by_cases c : i < t.length
  · rw [List.getElem?_eq_getElem c]; exact o.ht _ (List.getElem_mem c)
  · rw [List.getElem?_eq_none (by omega)]; simp
theorem ar_out {i : Nat} (h : t.length ≤ i) : ar t i = 0 := by
  unfold ar
  rw [List.getD_eq_getElem?_getD, List.getElem?_eq_none h]; rfl
theorem ok_step (o : Ok R D t) (i : Nat) : (0 ≤ bk R D t i ∧ bk R D t i ≤ 1000 * (i : Int)) ∧ (0 ≤ lv R D t i ∧ lv R D t i ≤ D) := by
  induction i with
  | zero => rw [bk0, lv0]; have := o.hd; omega
  | succ i ih =>
    have h1 := ar_ok o i
    have h2 := o.hr
    have h3 := o.hd
    rw [bkS, lvS]
    unfold xs
    unfold mn
    split <;> split <;> omega
theorem xs_ok (o : Ok R D t) (i : Nat) : 0 ≤ xs R D t i ∧ xs R D t i ≤ lv R D t i ∧ xs R D t i ≤ bk R D t i + ar t i ∧ xs R D t i ≤ 1000 := by
  have h1 := ok_step o i
  have h2 := ar_ok o i
  have h3 := o.hd
  unfold xs mn
  split <;> omega
theorem lv_pos (o : Ok R D t) (i : Nat) : 1 ≤ lv R D t i := by
  cases i with
  | zero => rw [lv0]; exact o.hd.1
  | succ i =>
    have h1 := xs_ok o i
    have := o.hr
    have := o.hd
    rw [lvS]
    unfold mn
    split <;> omega
/-- What is left behind a tick is left because the level is used up. -/
theorem full (o : Ok R D t) (i : Nat) (h : bk R D t (i + 1) > 0) : xs R D t i = lv R D t i := by
  rw [bkS] at h
  rcases mn_or (bk R D t i + ar t i) (lv R D t i) with e | e
  · have : xs R D t i = bk R D t i + ar t i := e
    omega
  · exact e
def came (t : List Int) (i : Nat) : Int := ((List.range i).map (ar t)).sum
def gone (R D : Int) (t : List Int) (i : Nat) : Int := ((List.range i).map (xs R D t)).sum
theorem cameS (i : Nat) : came t (i + 1) = came t i + ar t i := by simp [came, List.range_succ]
theorem goneS (i : Nat) : gone R D t (i + 1) = gone R D t i + xs R D t i := by simp [gone, List.range_succ]
theorem came_gone (i : Nat) : came t i = gone R D t i + bk R D t i := by
  induction i with
  | zero => simp [came, gone, bk0]
  | succ i ih => rw [cameS, goneS, bkS]; omega
theorem came_all {i : Nat} (h : t.length ≤ i) : came t i = t.sum := by
  have : ∀ k, k ≤ t.length → came t k = (t.take k).sum := by
    intro k
    induction k with
    | zero => intro _; simp [came]
    | succ k ih =>
      intro hk
      rw [cameS, ih (by omega), sum_take (by omega)]
      unfold ar
      rw [List.getD_eq_getElem?_getD, List.getElem?_eq_getElem (by omega)]; rfl
  obtain ⟨d, rfl⟩ : ∃ d, i = t.length + d := ⟨i - t.length, by omega⟩
  clear h
  induction d with
  | zero => rw [Nat.add_zero, this _ (Nat.le_refl _), List.take_length]
  | succ d ih => rw [← Nat.add_assoc, cameS, ih, ar_out (by omega), Int.add_zero]
theorem gone_ok (o : Ok R D t) (i : Nat) : 0 ≤ gone R D t i ∧ gone R D t i ≤ 1000 * (i : Int) := by
  induction i with
  | zero => simp [gone]
  | succ i ih => have := xs_ok o i; rw [goneS]; omega
/-- The tick at which all is sent: the first at or behind the traffic's end without a backlog. -/
def Ends (R D : Int) (t : List Int) (N : Nat) : Prop := t.length ≤ N ∧ bk R D t N = 0 ∧ ∀ i, i < N → i < t.length ∨ bk R D t i > 0
theorem ends_or (o : Ok R D t) : (∃ N, N ≤ 100 ∧ Ends R D t N) ∨ ∀ i, i ≤ 100 → i < t.length ∨ bk R D t i > 0 := by
  have key : ∀ k, (∃ N, N < k ∧ Ends R D t N) ∨ ∀ i, i < k → i < t.length ∨ bk R D t i > 0 := by
    intro k
    induction k with
    | zero => right; intro i hi; omega
    | succ k ih =>
      rcases ih with ⟨N, h1, h2⟩ | h
      · exact .inl ⟨N, by omega, h2⟩
      · by_cases c : k < t.length ∨ bk R D t k > 0
        · right
          intro i hi
          by_cases e : i = k
          · subst e; exact c
          · exact h i (by omega)
        · left
          have := (ok_step o k).1
          exact ⟨k, by omega, by omega, by omega, h⟩
  rcases key 101 with ⟨N, h1, h2⟩ | h
  · exact .inl ⟨N, by omega, h2⟩
  · exact .inr fun i hi => h i (by omega)
def shapeR (R D : Int) (t : List Int) (N : Nat) : List Int := (List.range N).map (xs R D t)
def leftR (R D : Int) (t : List Int) (N : Nat) : List Int := (List.range N).map fun i => bk R D t (i + 1)
theorem shape_length (N : Nat) : (shapeR R D t N).length = N := by simp [shapeR]
theorem left_length (N : Nat) : (leftR R D t N).length = N := by simp [leftR]
theorem shapeS (N : Nat) : shapeR R D t (N + 1) = shapeR R D t N ++ [xs R D t N] := by simp [shapeR, List.range_succ]
theorem leftS (N : Nat) : leftR R D t (N + 1) = leftR R D t N ++ [bk R D t (N + 1)] := by simp [leftR, List.range_succ]
theorem shape_at (N i : Nat) (h : i < N) : at? (shapeR R D t N) (i : Int) = some (xs R D t i) := by
  rw [at_some (by rw [shape_length]; exact h)]; simp [shapeR]
theorem tr_at (i : Nat) (h : i < t.length) : at? t (i : Int) = some (ar t i) := by
  rw [at_some h]; unfold ar; rw [List.getD_eq_getElem?_getD, List.getElem?_eq_getElem h]; rfl
theorem shape_sum (N : Nat) : (shapeR R D t N).sum = gone R D t N := rfl
end Sh
end Go.Proofs.Ythecknnmfghilaa.Ev.Q3
