/- What a server sends: the program and the reference tell the same; no condition but that there are a server and traffic. -/
import Derived.Test.YtoeddkfbhjmbmaaPure0
import Derived.Test.YtoeddkfbhjmbmaaServed
import Derived.Test.YtoeddkfbhjmbmaaPB4
import Derived.Test.YtoeddkfbhjmbmaaPB9
namespace Go.Proofs.Ytoeddkfbhjmbmaa.PB
open Go.RowKit Go.Proofs.YtoeddkfbhjmbmaaW.PrintWords Go.Proofs.YtoeddkfbhjmbmaaW.PrintLast Go.Proofs.YtoeddkfbhjmbmaaW.PrintMore
namespace Srv
/-- What comes at a tick. -/
def tr (l : List Int) (t : Nat) : Int := l.getD t 0
/-- What is sent of what waits. -/
def xOf (r lat : Int) (t : Nat) (b : Int) : Int := if (t : Int) < lat then 0 else mn b r
/-- What waits before a tick. -/
def B (l : List Int) (r lat : Int) : Nat → Int
  | 0 => 0
  | t + 1 => (B l r lat t + tr l t) - xOf r lat t (B l r lat t + tr l t)
/-- What a tick sends. -/
def X (l : List Int) (r lat : Int) (t : Nat) : Int := xOf r lat t (B l r lat t + tr l t)
/-- What has come before a tick. -/
def C (l : List Int) : Nat → Int
  | 0 => 0
  | t + 1 => C l t + tr l t
/-- What is gone before a tick. -/
def G (l : List Int) (r lat : Int) : Nat → Int
  | 0 => 0
  | t + 1 => G l r lat t + X l r lat t
def outs (l : List Int) (r lat : Int) (t : Nat) : List Int := (List.range t).map (X l r lat)
def lefts (l : List Int) (r lat : Int) (t : Nat) : List Int := (List.range t).map fun i => B l r lat (i + 1)
def dues (l : List Int) (t : Nat) : List Int := (List.range t).map fun i => C l (i + 1)
def most (l : List Int) (r lat : Int) : Nat → Int
  | 0 => 0
  | t + 1 => mx (most l r lat t) (B l r lat (t + 1))
def Dk (l : List Int) (r lat : Int) (t : Nat) (d : Int) : Nat → Int
  | 0 => d
  | k + 1 => if tr l k > 0 ∧ C l (k + 1) ≤ G l r lat (t + 1) ∧ C l (k + 1) > G l r lat t then mx (Dk l r lat t d k) ((t : Int) - k) else Dk l r lat t d k
def D (l : List Int) (r lat : Int) : Nat → Int
  | 0 => 0
  | t + 1 => Dk l r lat t (D l r lat t) (min (t + 1) l.length)
/-- Does it go on? -/
def go (l : List Int) (r lat : Int) (t : Nat) : Bool := decide (t < l.length) || decide (B l r lat t > 0)
def search (l : List Int) (r lat : Int) : Nat → Nat → Option Nat
  | 0, t => if go l r lat t = true then none else some t
  | d + 1, t => if go l r lat t = true then search l r lat d (t + 1) else some t

structure Ok (l : List Int) (r : Int) : Prop where
  len : l.length ≤ 40
  ent : ∀ x ∈ l, 0 ≤ x ∧ x ≤ 1000
  rate : 1 ≤ r ∧ r ≤ 100
variable {l : List Int} {r lat : Int}
theorem tr_ok (h : Ok l r) (t : Nat) : 0 ≤ tr l t ∧ tr l t ≤ 1000 := by
  unfold tr
  by_cases c : t < l.length
  · have e : l.getD t 0 = l[t] := by simp [List.getD, c]
    rw [e]
    exact h.ent _ (List.getElem_mem c)
  · simp [List.getD, List.getElem?_eq_none (show l.length ≤ t by omega)]
theorem tr_out (t : Nat) (c : ¬ t < l.length) : tr l t = 0 := by
  unfold tr
  simp [List.getD, List.getElem?_eq_none (show l.length ≤ t by omega)]
theorem xOf_ok (h : Ok l r) (t : Nat) (b : Int) (hb : 0 ≤ b) : 0 ≤ xOf r lat t b ∧ xOf r lat t b ≤ b := by
  have := h.rate
  unfold xOf mn
  split
  · omega
  · split <;> omega
theorem C_ok (h : Ok l r) (t : Nat) : 0 ≤ C l t ∧ C l t ≤ 1000 * t := by
  induction t with
  | zero => simp [C]
  | succ t ih =>
    have := tr_ok h t
    simp only [C]
    omega
theorem B_ok (h : Ok l r) (t : Nat) : 0 ≤ B l r lat t ∧ B l r lat t ≤ C l t := by
  induction t with
  | zero => simp [B, C]
  | succ t ih =>
    have h1 := tr_ok h t
    have h2 := xOf_ok (lat := lat) h t (B l r lat t + tr l t) (by omega)
    simp only [B, C]
    omega
theorem X_ok (h : Ok l r) (t : Nat) : 0 ≤ X l r lat t := (xOf_ok h t _ (by have := (B_ok (lat := lat) h t).1; have := (tr_ok h t).1; omega)).1
theorem B_succ (t : Nat) : B l r lat (t + 1) = B l r lat t + tr l t - X l r lat t := rfl
theorem G_eq (t : Nat) : G l r lat t = C l t - B l r lat t := by
  induction t with
  | zero => simp [G, C, B]
  | succ t ih =>
    simp only [G, C, B_succ]
    omega
theorem C_mono (h : Ok l r) {s t : Nat} (hst : s ≤ t) : C l s ≤ C l t := by
  induction t with
  | zero =>
    obtain rfl : s = 0 := by omega
    omega
  | succ t ih =>
    have := tr_ok h t
    simp only [C]
    rcases Nat.lt_or_ge t s with c | c
    · obtain rfl : s = t + 1 := by omega
      simp [C]
    · have := ih c
      omega
theorem G_mono (h : Ok l r) {s t : Nat} (hst : s ≤ t) : G l r lat s ≤ G l r lat t := by
  induction t with
  | zero =>
    obtain rfl : s = 0 := by omega
    omega
  | succ t ih =>
    have := X_ok (lat := lat) h t
    simp only [G]
    rcases Nat.lt_or_ge t s with c | c
    · obtain rfl : s = t + 1 := by omega
      simp [G]
    · have := ih c
      omega
theorem outs_succ (t : Nat) : outs l r lat (t + 1) = outs l r lat t ++ [X l r lat t] := by simp [outs, List.range_succ]
theorem lefts_succ (t : Nat) : lefts l r lat (t + 1) = lefts l r lat t ++ [B l r lat (t + 1)] := by simp [lefts, List.range_succ]
theorem dues_succ (t : Nat) : dues l (t + 1) = dues l t ++ [C l (t + 1)] := by simp [dues, List.range_succ]
theorem outs_len (t : Nat) : (outs l r lat t).length = t := by simp [outs]
theorem lefts_len (t : Nat) : (lefts l r lat t).length = t := by simp [lefts]
theorem dues_len (t : Nat) : (dues l t).length = t := by simp [dues]
theorem outs_rd {T p : Nat} (h : p < T) : rd (outs l r lat T) (p : Int) = X l r lat p := by
  rw [rd_at _ _ (by rw [outs_len]; exact h)]
  simp [outs]
theorem dues_rd {T p : Nat} (h : p < T) : rd (dues l T) (p : Int) = C l (p + 1) := by
  rw [rd_at _ _ (by rw [dues_len]; exact h)]
  simp [dues]

/-! the reference -/
def resS (l : List Int) (r lat : Int) : Option Nat → List Int × List Int × Bool
  | none => ([], [], false)
  | some T => (outs l r lat T, lefts l r lat T, true)
theorem least_eq (a b : Int) : spec_l1Least.f a b = some (mn a b) := by
  unfold spec_l1Least.f mn
  split <;> split <;> first | rfl | (congr 1; omega)
theorem spec_step (h : Ok l r) (t : Nat) (ht : t < 100) {R : List Int × List Int × Bool}
    (hn : Tells (fun k => spec_boServe.l0 k l (outs l r lat (t + 1)) (lefts l r lat (t + 1)) (B l r lat (t + 1)) ((t + 1 : Nat) : Int) r lat) R) :
    Tells (fun k => spec_boServe.j1 k l (outs l r lat t) (lefts l r lat t) (B l r lat t) (t : Int) true r lat) R := by
  have hB := B_ok (lat := lat) h t
  have hB' := B_ok (lat := lat) h (t + 1)
  have hC := C_ok h t
  have hT := tr_ok h t
  have hC' := C_ok h (t + 1)
  have hx := xOf_ok (lat := lat) h t (B l r lat t + tr l t) (by omega)
  rw [outs_succ, lefts_succ, B_succ] at hn
  rw [B_succ] at hB'
  have hX : X l r lat t = xOf r lat t (B l r lat t + tr l t) := rfl
  rw [hX] at hn hB'
  have hrd : rd l (t : Int) = tr l t := rd_nat l t
  refine Tells.succ ?_
  simp only [spec_boServe.j1, if_true, least_eq, Option.bind_some, hrd, outs_len, lefts_len]
  rw [w64 (x := (t : Int) + 1) (by omega) (by omega), show ((t : Int) + 1) = ((t + 1 : Nat) : Int) by omega, w64 (x := B l r lat t + tr l t) (by omega) (by omega), w64 (x := B l r lat t) (by omega) (by omega)]
  simp only [show ¬ ((t : Int) ≥ 100) by omega, show (0 : Int) ≤ (t : Int) by omega, show t < 17592186044416 by omega, if_true, if_false]
  unfold xOf at hn hB' hx
  by_cases c1 : (t : Int) < (l.length : Int)
  · simp only [c1, if_true]
    by_cases c2 : (t : Int) ≥ lat
    · rw [if_neg (by omega)] at hn hB' hx
      rw [w64 (x := _ - mn _ r) (by omega) (by omega)]
      simpa only [c2, if_true] using hn
    · rw [if_pos (by omega)] at hn hB' hx
      rw [w64 (x := B l r lat t + tr l t) (by omega) (by omega)]
      simpa only [c2, if_false, Int.sub_zero] using hn
  · simp only [c1, if_false]
    have h0 : tr l t = 0 := tr_out t (by omega)
    rw [h0, Int.add_zero] at hn hB' hx
    by_cases c2 : (t : Int) ≥ lat
    · rw [if_neg (by omega)] at hn hB' hx
      rw [w64 (x := _ - mn _ r) (by omega) (by omega)]
      simpa only [c2, if_true] using hn
    · rw [if_pos (by omega)] at hn hB' hx
      simpa only [c2, if_false, Int.sub_zero] using hn
theorem spec_on (t : Nat) (c : go l r lat t = true) {R : List Int × List Int × Bool} (hn : Tells (fun k => spec_boServe.j1 k l (outs l r lat t) (lefts l r lat t) (B l r lat t) (t : Int) true r lat) R) :
    Tells (fun k => spec_boServe.l0 k l (outs l r lat t) (lefts l r lat t) (B l r lat t) (t : Int) r lat) R := by
  refine Tells.succ ?_
  simp only [spec_boServe.l0]
  simp only [go, Bool.or_eq_true, decide_eq_true_eq] at c
  by_cases c1 : (t : Int) < (l.length : Int)
  · simpa only [c1, if_true] using hn
  · have : B l r lat t > 0 := by omega
    simpa only [c1, if_false, this, decide_true] using hn
theorem spec_off (t : Nat) (c : ¬ go l r lat t = true) :
    Tells (fun k => spec_boServe.l0 k l (outs l r lat t) (lefts l r lat t) (B l r lat t) (t : Int) r lat) (resS l r lat (some t)) := by
  refine Tells.succ (Tells.succ ?_)
  simp only [spec_boServe.l0]
  simp only [go, Bool.or_eq_true, decide_eq_true_eq, not_or] at c
  simp only [if_neg (show ¬ (t : Int) < (l.length : Int) by omega), decide_eq_false c.2]
  simp only [spec_boServe.j1, Bool.false_eq_true, if_false]
  exact Tells.now fun _ => rfl
theorem spec_run (h : Ok l r) : ∀ (d t : Nat), t + d = 100 →
    Tells (fun k => spec_boServe.l0 k l (outs l r lat t) (lefts l r lat t) (B l r lat t) (t : Int) r lat) (resS l r lat (search l r lat d t))
  | 0, t, ht => by
    unfold search
    by_cases c : go l r lat t = true
    · rw [if_pos c]
      refine spec_on t c ?_
      refine Tells.succ ?_
      simp only [spec_boServe.j1, if_true, show ((t : Int) ≥ 100) by omega]
      exact Tells.now fun _ => rfl
    · rw [if_neg c]
      exact spec_off t c
  | d + 1, t, ht => by
    unfold search
    by_cases c : go l r lat t = true
    · rw [if_pos c]
      exact spec_on t c (spec_step h t (by omega) (spec_run h d (t + 1) (by omega)))
    · rw [if_neg c]
      exact spec_off t c

/-! the program -/
def resI (l : List Int) (r lat : Int) : Option Nat → List Int × Int × Int × Bool
  | none => ([], 0, 0, false)
  | some T => (outs l r lat T, most l r lat T, D l r lat T, true)
def told : Int → Option Unit := fun _ => some ()
theorem impl_inner (h : Ok l r) (t : Nat) (ht : t < 100) (left come : Int) (d0 m : Int) (os : List Int) (n : Nat) (hn : n ≤ t + 1) (hnl : n ≤ l.length) {R : List Int × Int × Int × Bool}
    (hl : Tells (fun k => impl_sent.l0 (letsOf r lat) told k l left come (G l r lat (t + 1)) (dues l n) ((t + 1 : Nat) : Int) os m (Dk l r lat t d0 n)) R) : ∀ (d i : Nat), i + d = n →
    Tells (fun k => impl_sent.l1 (letsOf r lat) told k l left come (G l r lat (t + 1)) (dues l n) (t : Int) (X l r lat t) (dues l n) (n : Int) (i : Int) os m (Dk l r lat t d0 i)) R
  | 0, i, hi => by
    obtain rfl : i = n := by omega
    refine Tells.succ ?_
    simp only [impl_sent.l1]
    simp only [if_neg (show ¬ (i : Int) < (i : Int) by omega)]
    rw [w64 (by omega) (by omega)]
    exact hl
  | d + 1, i, hi => by
    have ih := impl_inner h t ht left come d0 m os n hn hnl hl d (i + 1) (by omega)
    have hG : wrap64 (G l r lat (t + 1) - X l r lat t) = G l r lat t := by
      have e : G l r lat (t + 1) = G l r lat t + X l r lat t := rfl
      rw [e, Int.add_sub_cancel, G_eq]
      have := B_ok (lat := lat) h t
      have := C_ok h t
      rw [w64 (by omega) (by omega)]
    refine Tells.succ ?_
    simp only [impl_sent.l1, dues_len, hG]
    simp only [if_pos (show (i : Int) < (n : Int) by omega), if_pos (show (0 : Int) ≤ (i : Int) by omega), if_pos (show (i : Int) < (l.length : Int) by omega)]
    rw [w64 (x := (i : Int) + 1) (by omega) (by omega), w64 (x := (t : Int) - i) (by omega) (by omega), dues_rd (show i < n by omega)]
    have hrd : rd l (i : Int) = tr l i := rd_nat l i
    rw [hrd]
    rw [show (((i + 1 : Nat) : Int)) = (i : Int) + 1 by omega] at ih
    simp only [Dk] at ih
    by_cases c1 : tr l i > 0
    · by_cases c2 : C l (i + 1) ≤ G l r lat (t + 1)
      · by_cases c3 : C l (i + 1) > G l r lat t
        · simpa only [c1, c2, c3, and_self, if_true] using ih
        · simpa only [c1, c2, c3, and_false, if_true, if_false] using ih
      · simpa only [c1, c2, false_and, and_false, if_true, if_false] using ih
    · simpa only [c1, false_and, if_false] using ih
theorem impl_step (h : Ok l r) (t : Nat) (ht : t < 100) {R : List Int × Int × Int × Bool}
    (hn : Tells (fun k => impl_sent.l0 (letsOf r lat) told k l (B l r lat (t + 1)) (C l (t + 1)) (G l r lat (t + 1)) (dues l (min (t + 1) l.length)) ((t + 1 : Nat) : Int) (outs l r lat (t + 1)) (most l r lat (t + 1)) (D l r lat (t + 1))) R) :
    Tells (fun k => impl_sent.j1 (letsOf r lat) told k l (B l r lat t) (C l t) (G l r lat t) (dues l (min t l.length)) (t : Int) true (outs l r lat t) (most l r lat t) (D l r lat t)) R := by
  have hB := B_ok (lat := lat) h t
  have hB' := B_ok (lat := lat) h (t + 1)
  have hC := C_ok h t
  have hT := tr_ok h t
  have hC' := C_ok h (t + 1)
  have hG := G_eq (l := l) (r := r) (lat := lat) (t + 1)
  have hx := xOf_ok (lat := lat) h t (B l r lat t + tr l t) (by omega)
  have hrd : rd l (t : Int) = tr l t := rd_nat l t
  have hlets : ∀ b : Int, 0 ≤ b → (letsOf r lat (t : Int)).map (mn b) = some (xOf r lat t b) := by
    intro b hb
    unfold letsOf xOf
    by_cases c : (t : Int) < lat
    · rw [if_pos c, if_pos c]
      simp only [Option.map_some, mn]
      split <;> first | rfl | (congr 1; omega)
    · rw [if_neg c, if_neg c]
      rfl
  obtain ⟨z, hz, hzx⟩ : ∃ z, letsOf r lat (t : Int) = some z ∧ mn (B l r lat t + tr l t) z = X l r lat t := by
    have := hlets (B l r lat t + tr l t) (by omega)
    cases e : letsOf r lat (t : Int) with
    | none => rw [e] at this; cases this
    | some z =>
      rw [e] at this
      exact ⟨z, rfl, Option.some.inj this⟩
  have key : Tells (fun k => impl_sent.j2 (letsOf r lat) told k l (B l r lat t + tr l t) (C l (t + 1)) (G l r lat t) (dues l (min (t + 1) l.length)) (t : Int) (outs l r lat t) (most l r lat t) (D l r lat t)) R := by
    refine Tells.succ ?_
    simp only [impl_sent.j2, hz, Option.bind_some, told, outs_len, hzx]
    simp only [if_pos (show t < 17592186044416 by omega)]
    rw [show B l r lat t + tr l t - X l r lat t = B l r lat (t + 1) from rfl, show G l r lat t + X l r lat t = G l r lat (t + 1) from rfl, w64 (x := B l r lat (t + 1)) (by omega) (by omega), w64 (x := G l r lat (t + 1)) (by omega) (by omega), ← outs_succ,
      show mx (most l r lat t) (B l r lat (t + 1)) = most l r lat (t + 1) from rfl, dues_len]
    have := impl_inner h t ht (B l r lat (t + 1)) (C l (t + 1)) (D l r lat t) (most l r lat (t + 1)) (outs l r lat (t + 1)) (min (t + 1) l.length) (by omega) (by omega) hn (min (t + 1) l.length) 0 (by omega)
    exact this
  refine Tells.succ ?_
  simp only [impl_sent.j1, if_true, hrd]
  simp only [if_neg (show ¬ (t : Int) = 100 by omega)]
  by_cases c : (t : Int) < (l.length : Int)
  · simp only [if_pos c, if_pos (show (0 : Int) ≤ (t : Int) by omega), dues_len, if_pos (show min t l.length < 17592186044416 by omega)]
    rw [w64 (x := B l r lat t + tr l t) (by omega) (by omega), show C l t + tr l t = C l (t + 1) from rfl, w64 (x := C l (t + 1)) (by omega) (by omega)]
    rw [show min (t + 1) l.length = t + 1 by omega] at key
    rw [show min t l.length = t by omega, ← dues_succ]
    exact key
  · simp only [if_neg c]
    have h0 : tr l t = 0 := tr_out t (by omega)
    rw [show min (t + 1) l.length = min t l.length by omega, h0, Int.add_zero, show C l (t + 1) = C l t by simp [C, h0]] at key
    exact key
theorem impl_on (t : Nat) (c : go l r lat t = true) {R : List Int × Int × Int × Bool}
    (hn : Tells (fun k => impl_sent.j1 (letsOf r lat) told k l (B l r lat t) (C l t) (G l r lat t) (dues l (min t l.length)) (t : Int) true (outs l r lat t) (most l r lat t) (D l r lat t)) R) :
    Tells (fun k => impl_sent.l0 (letsOf r lat) told k l (B l r lat t) (C l t) (G l r lat t) (dues l (min t l.length)) (t : Int) (outs l r lat t) (most l r lat t) (D l r lat t)) R := by
  refine Tells.succ ?_
  simp only [impl_sent.l0]
  simp only [go, Bool.or_eq_true, decide_eq_true_eq] at c
  by_cases c1 : (t : Int) < (l.length : Int)
  · simpa only [c1, if_true] using hn
  · have : B l r lat t > 0 := by omega
    simpa only [c1, if_false, this, decide_true] using hn
theorem impl_off (t : Nat) (c : ¬ go l r lat t = true) :
    Tells (fun k => impl_sent.l0 (letsOf r lat) told k l (B l r lat t) (C l t) (G l r lat t) (dues l (min t l.length)) (t : Int) (outs l r lat t) (most l r lat t) (D l r lat t)) (resI l r lat (some t)) := by
  refine Tells.succ (Tells.succ ?_)
  simp only [impl_sent.l0]
  simp only [go, Bool.or_eq_true, decide_eq_true_eq, not_or] at c
  simp only [if_neg (show ¬ (t : Int) < (l.length : Int) by omega), decide_eq_false c.2]
  simp only [impl_sent.j1, Bool.false_eq_true, if_false]
  exact Tells.now fun _ => rfl
theorem impl_run (h : Ok l r) : ∀ (d t : Nat), t + d = 100 →
    Tells (fun k => impl_sent.l0 (letsOf r lat) told k l (B l r lat t) (C l t) (G l r lat t) (dues l (min t l.length)) (t : Int) (outs l r lat t) (most l r lat t) (D l r lat t)) (resI l r lat (search l r lat d t))
  | 0, t, ht => by
    unfold search
    by_cases c : go l r lat t = true
    · rw [if_pos c]
      refine impl_on t c ?_
      refine Tells.succ ?_
      simp only [impl_sent.j1, if_true, show ((t : Int) = 100) by omega]
      exact Tells.now fun _ => rfl
    · rw [if_neg c]
      exact impl_off t c
  | d + 1, t, ht => by
    unfold search
    by_cases c : go l r lat t = true
    · rw [if_pos c]
      exact impl_on t c (impl_step h t (by omega) (impl_run h d (t + 1) (by omega)))
    · rw [if_neg c]
      exact impl_off t c
theorem serve_tells (h : Ok l r) : Tells (fun k => spec_boServe.f k r lat l) (resS l r lat (search l r lat 100 0)) := by
  have := spec_run (lat := lat) h 100 0 rfl
  exact this
theorem sent_tells (h : Ok l r) : Tells (fun k => impl_sent.f k l (letsOf r lat) told) (resI l r lat (search l r lat 100 0)) := by
  have := impl_run (lat := lat) h 100 0 rfl
  simpa [impl_sent.f, B, C, G, dues, outs, most, D] using this
theorem search_stop : ∀ (d t T : Nat), search l r lat d t = some T → t + d = 100 → ¬ go l r lat T = true ∧ T ≤ 100
  | 0, t, T, e, ht => by
    unfold search at e
    split at e
    · cases e
    · cases e
      exact ⟨by assumption, by omega⟩
  | d + 1, t, T, e, ht => by
    unfold search at e
    split at e
    · exact search_stop d (t + 1) T e (by omega)
    · cases e
      exact ⟨by assumption, by omega⟩
end Srv
end Go.Proofs.Ytoeddkfbhjmbmaa.PB
