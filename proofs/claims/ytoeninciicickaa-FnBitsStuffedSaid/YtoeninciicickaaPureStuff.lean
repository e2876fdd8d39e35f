/- Stuffed bits: the program and the reference tell the same, and they come back; no condition but lengths. -/
import Derived.Test.YtoeninciicickaaPure0
import Derived.Test.YtoeninciicickaaPA8
import Derived.Test.YtoeninciicickaaPA12
import Derived.Test.YtoeninciicickaaPA16
import Derived.Test.YtoeninciicickaaPA20
import Derived.Test.YtoeninciicickaaPA13
import Derived.Test.YtoeninciicickaaPA17
import Derived.Test.YtoeninciicickaaPA14
import Derived.Test.YtoeninciicickaaPA9
import Derived.Test.YtoeninciicickaaPA6
import Derived.Test.YtoeninciicickaaPA10
namespace Go.Proofs.Ytoeninciicickaa.PA
open Go Go.RowKit Go.Proofs.YtoeninciicickaaW.PrintWords Go.Proofs.YtoeninciicickaaW.PrintLast Go.Proofs.YtoeninciicickaaW.PrintMore
set_option linter.unusedVariables false
def isBits (l : List Int) : Prop := ∀ x ∈ l, x = 0 ∨ x = 1
/-- Stuffed bits behind n ones. -/
def stf : Nat → List Int → List Int
  | _, [] => []
  | n, x :: l => if x = 0 then 0 :: stf 0 l else if n = 4 then 1 :: 0 :: stf 0 l else 1 :: stf (n + 1) l
/-- The bits that are stuffed to some, if there are any. -/
def pln : Nat → List Int → Option (List Int)
  | n, [] => if n = 5 then none else some []
  | n, x :: l => if n = 5 then (if x = 1 then none else pln 0 l) else if x = 0 then (pln 0 l).map (0 :: ·) else (pln (n + 1) l).map (1 :: ·)
/-- The bits without those behind five ones. -/
def unst : Nat → List Int → List Int
  | _, [] => []
  | n, x :: l => if n = 5 then unst 0 l else if x = 0 then 0 :: unst 0 l else 1 :: unst (n + 1) l
theorem bits_cons {x : Int} {l : List Int} (h : isBits (x :: l)) : (x = 0 ∨ x = 1) ∧ isBits l := ⟨h x (by simp), fun y hy => h y (by simp [hy])⟩
theorem pln_stf (l : List Int) (h : isBits l) : ∀ n, n ≤ 4 → pln n (stf n l) = some l := by
  induction l with
  | nil => intro n hn; simp [stf, pln]; omega
  | cons x l ih =>
    intro n hn
    obtain ⟨hx, hl⟩ := bits_cons h
    have h0 := ih hl 0 (by omega)
    rcases hx with rfl | rfl
    · simp only [stf, if_true, pln]
      rw [if_neg (by omega), h0]
      rfl
    · simp only [stf]
      rw [if_neg (by omega)]
      by_cases c : n = 4
      · subst c
        simp [pln, h0]
      · rw [if_neg c]
        simp only [pln]
        rw [if_neg (by omega), if_neg (by omega), ih hl (n + 1) (by omega)]
        rfl
theorem pln_unst (m : Nat) : ∀ (l : List Int), l.length ≤ m → isBits l → ∀ n, n ≤ 4 → pln n l = if stf n (unst n l) = l then some (unst n l) else none := by
  induction m with
  | zero =>
    intro l hm h n hn
    obtain rfl : l = [] := List.length_eq_zero_iff.1 (by omega)
    simp [pln, unst, stf]
    omega
  | succ m ih =>
    intro l hm h n hn
    match l, hm, h with
    | [], _, _ =>
      simp [pln, unst, stf]
      omega
    | x :: l, hm, h =>
      obtain ⟨hx, hl⟩ := bits_cons h
      simp only [List.length_cons] at hm
      have hn5 : n ≠ 5 := by omega
      rcases hx with rfl | rfl
      · have h0 := ih l (by omega) hl 0 (by omega)
        simp only [pln, unst, if_neg hn5, if_true, stf, h0]
        by_cases c : stf 0 (unst 0 l) = l
        · simp [c]
        · simp [c]
      · simp only [pln, unst, if_neg hn5, show ¬ ((1 : Int) = 0) from by omega, if_false]
        by_cases c4 : n = 4
        · subst c4
          match l, hm, hl with
          | [], _, _ => simp [pln, unst, stf]
          | y :: l, hm, hl =>
            obtain ⟨hy, hl⟩ := bits_cons hl
            simp only [List.length_cons] at hm
            have h0 := ih l (by omega) hl 0 (by omega)
            rcases hy with rfl | rfl
            · simp only [pln, unst, stf, if_true, h0]
              by_cases c : stf 0 (unst 0 l) = l <;> simp [c]
            · simp [pln, unst, stf]
        · have h1 := ih l (by omega) hl (n + 1) (by omega)
          simp only [h1, stf, show ¬ ((1 : Int) = 0) from by omega, if_false, if_neg c4]
          by_cases c : stf (n + 1) (unst (n + 1) l) = l <;> simp [c]
theorem stf_bits (l : List Int) (h : isBits l) : ∀ n, isBits (stf n l) := by
  induction l with
  | nil => intro n x hx; simp [stf] at hx
  | cons x l ih =>
    intro n y hy
    obtain ⟨hx, hl⟩ := bits_cons h
    simp only [stf] at hy
    split at hy
    · rcases List.mem_cons.1 hy with rfl | hy
      · exact .inl rfl
      · exact ih hl 0 y hy
    · split at hy
      · rcases List.mem_cons.1 hy with rfl | hy
        · exact .inr rfl
        · rcases List.mem_cons.1 hy with rfl | hy
          · exact .inl rfl
          · exact ih hl 0 y hy
      · rcases List.mem_cons.1 hy with rfl | hy
        · exact .inr rfl
        · exact ih hl (n + 1) y hy
theorem stf_len (l : List Int) : ∀ n, (stf n l).length ≤ 2 * l.length := by
  induction l with
  | nil => intro n; simp [stf]
  | cons x l ih =>
    intro n
    have h0 := ih 0
    have h1 := ih (n + 1)
    simp only [stf]
    split
    · simp only [List.length_cons]; omega
    · split <;> simp only [List.length_cons] <;> omega
theorem unst_bits (l : List Int) (h : isBits l) : ∀ n, isBits (unst n l) ∧ (unst n l).length ≤ l.length := by
  induction l with
  | nil => intro n; exact ⟨fun x hx => by simp [unst] at hx, by simp [unst]⟩
  | cons x l ih =>
    intro n
    obtain ⟨hx, hl⟩ := bits_cons h
    have h0 := ih hl 0
    have h1 := ih hl (n + 1)
    simp only [unst, List.length_cons]
    split
    · exact ⟨h0.1, by omega⟩
    · split
      · refine ⟨fun y hy => ?_, by simp only [List.length_cons]; omega⟩
        rcases List.mem_cons.1 hy with rfl | hy
        · exact .inl rfl
        · exact h0.1 y hy
      · refine ⟨fun y hy => ?_, by simp only [List.length_cons]; omega⟩
        rcases List.mem_cons.1 hy with rfl | hy
        · exact .inr rfl
        · exact h1.1 y hy
theorem stf_sum (l : List Int) (h : isBits l) : ∀ n, (stf n l).sum = l.sum := by
  induction l with
  | nil => intro n; simp [stf]
  | cons x l ih =>
    intro n
    obtain ⟨hx, hl⟩ := bits_cons h
    have h0 := ih hl 0
    have h1 := ih hl (n + 1)
    simp only [stf]
    rcases hx with rfl | rfl
    · simp [h0]
    · rw [if_neg (by omega)]
      split <;> simp [h0, h1]
/-- Rows of ones are no longer than five. -/
def rowOk : Int → List Int → Bool
  | _, [] => true
  | r, x :: l => decide ((r + 1) * x ≤ 5) && rowOk ((r + 1) * x) l
theorem stf_row (l : List Int) (h : isBits l) : ∀ n : Nat, n ≤ 4 → rowOk n (stf n l) = true := by
  induction l with
  | nil => intro n hn; simp [stf, rowOk]
  | cons x l ih =>
    intro n hn
    obtain ⟨hx, hl⟩ := bits_cons h
    have h0 : rowOk 0 (stf 0 l) = true := by simpa using ih hl 0 (by omega)
    simp only [stf]
    rcases hx with rfl | rfl
    · simp [rowOk, h0]
    · rw [if_neg (by omega)]
      split
      · rename_i c
        subst c
        simp [rowOk, h0]
      · have h1 := ih hl (n + 1) (by omega)
        rw [Int.natCast_add] at h1
        simp only [rowOk, Int.mul_one, Bool.and_eq_true, decide_eq_true_eq]
        exact ⟨by omega, h1⟩
end Go.Proofs.Ytoeninciicickaa.PA
