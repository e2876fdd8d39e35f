/- First breaches, least depths and rates: what the printed functions tell; no condition but what each names. -/
import Derived.Test.YthecknnmfghilaaPureBt
import Derived.Test.YthecknnmfghilaaPA2
import Derived.Test.YthecknnmfghilaaPA22
import Derived.Test.YthecknnmfghilaaPA23
import Derived.Test.YthecknnmfghilaaPA25
import Derived.Test.YthecknnmfghilaaPA27
import Derived.Test.YthecknnmfghilaaPA29
import Derived.Test.YthecknnmfghilaaPA30
import Derived.Test.YthecknnmfghilaaPA26
namespace Go.Proofs.Ythecknnmfghilaa.PA
open Go Go.RowKit Go.Proofs.YthecknnmfghilaaW.PrintWords Go.Proofs.YthecknnmfghilaaW.PrintLast Go.Proofs.YthecknnmfghilaaW.PrintMore
set_option linter.unusedVariables false
set_option linter.unusedSimpArgs false
theorem same_l0 (l : List Int) (hl : l.length ≤ 1000000) (d : Nat) : ∀ (i : Nat), i ≤ l.length → l.length - i = d → Tells (fun k => laws_kSame.l0 k l l (l.length : Int) (i : Int)) true := by
  induction d with
  | zero =>
    intro i h1 hd
    refine Tells.succ (Tells.now fun k => ?_)
    simp only [laws_kSame.l0]; rw [if_neg (by omega)]
  | succ d ih =>
    intro i h1 hd
    refine Tells.step (fun k => ?_) (ih (i + 1) (by omega) (by omega))
    simp only [laws_kSame.l0]
    rw [if_pos (by omega), if_pos (by omega), if_pos (by omega), if_pos (by omega), if_true, w64 (x := (i : Int) + 1) (by omega) (by omega)]
    rfl
theorem same_self (l : List Int) (hl : l.length ≤ 1000000) : Tells (fun k => laws_kSame.f k l l) true := by
  unfold laws_kSame.f
  simp only [if_true]
  exact same_l0 l hl l.length 0 (by omega) (by omega)
/-- The bounds of what is reckoned with a rate. -/
theorem rate_bound {r : Int} (hr : 1 ≤ r ∧ r ≤ 100) (n : Nat) (hn : n ≤ 40) : 0 ≤ r * (n : Int) ∧ r * (n : Int) ≤ 4000 := by
  constructor
  · exact Int.mul_nonneg (by omega) (by omega)
  · calc r * (n : Int) ≤ 100 * (n : Int) := Int.mul_le_mul_of_nonneg_right hr.2 (by omega)
      _ ≤ 4000 := by omega
theorem win_bd {l : List Int} (ht : isTr l = true) (s t : Nat) (hs : s ≤ t + 1) (hlt : t < l.length) : 0 ≤ win l s t ∧ win l s t ≤ 41000 := by
  have h := win_bound l (isTr_iff.mp ht).2 t hlt (t + 1 - s) s (by omega)
  have := (isTr_iff.mp ht).1
  omega
theorem fb_inner (r d : Int) (l : List Int) (hr : 1 ≤ r ∧ r ≤ 100) (hd : 1 ≤ d ∧ d ≤ 1000) (ht : isTr l = true) (t : Nat) (T : Int) (hT : T = (t : Int)) (hlt : t < l.length) (res : List Int × Bool) (n0 : Int) (x0 : Int)
    (hn : Tells (fun k => impl_FirstBreach.l0 k l n0 (wrap64 (x0 + 1)) r d) res) (gn : Tells (fun k => spec_FirstBreach.l0 k l n0 (wrap64 (x0 + 1)) r d) res) : ∀ (n : Nat) (x w : Int), x + 1 = n → n ≤ t + 1 → w = win l n t →
    Tells (fun k => impl_FirstBreach.l1 k l T x n0 x0 r d) (match fbIn r d l t n with | some s => ([(s : Int), (t : Int)], true) | none => res) ∧
    Tells (fun k => spec_FirstBreach.l1 k l T w x n0 x0 r d) (match fbIn r d l t n with | some s => ([(s : Int), (t : Int)], true) | none => res) := by
  have hlen := (isTr_iff.mp ht).1
  intro n
  induction n with
  | zero =>
    intro x w hx h hw
    simp only [fbIn]
    constructor
    · refine Tells.step (fun k => ?_) hn
      simp only [impl_FirstBreach.l1]
      rw [if_neg (by omega)]
    · refine Tells.step (fun k => ?_) gn
      simp only [spec_FirstBreach.l1]
      rw [if_neg (by omega)]
  | succ n ih =>
    intro x w hx h hw
    have hrb := rate_bound hr (t - n) (by omega)
    have hwb := win_bd ht n t (by omega) hlt
    have hwb2 := win_bd ht (n + 1) t (by omega) hlt
    have hst := win_step l n t (by omega) hlt
    obtain ⟨y, hy⟩ : ∃ y : Int, y = x - 1 := ⟨_, rfl⟩
    obtain ⟨w1, hw1⟩ : ∃ y : Int, y = win l n t := ⟨_, rfl⟩
    obtain ⟨lim, hlim⟩ : ∃ y : Int, y = d + r * ((t - n : Nat) : Int) := ⟨_, rfl⟩
    obtain ⟨T1, hT1⟩ : ∃ y : Int, y = T + 1 := ⟨_, rfl⟩
    have hxn : x = (n : Int) := by omega
    have e2 : wrap64 (T - x) = ((t - n : Nat) : Int) := by rw [w64 (by omega) (by omega)]; omega
    have e3 : wrap64 (r * ((t - n : Nat) : Int)) = r * ((t - n : Nat) : Int) := w64 (by omega) (by omega)
    have e4 : wrap64 (d + r * ((t - n : Nat) : Int)) = lim := by rw [w64 (by omega) (by omega)]; exact hlim.symm
    have e5 : wrap64 (T + 1) = T1 := by rw [w64 (by omega) (by omega)]; exact hT1.symm
    have e6 : wrap64 (w + rd l x) = w1 := by rw [hxn, w64 (by omega) (by omega)]; omega
    have e7 : wrap64 (x - 1) = y := by rw [w64 (by omega) (by omega)]; exact hy.symm
    have e8 : (l.take T1.toNat).drop x.toNat = (l.take (t + 1)).drop n := by
      rw [show T1.toNat = t + 1 by omega, show x.toNat = n by omega]
    have i2 := ih y w1 (by omega) (by omega) hw1
    obtain ⟨hwt, _⟩ := win_tells l ht n t
    rw [← hw1] at hwt
    have g1 : x ≥ 0 := by omega
    have g2 : x ≤ T1 := by omega
    have g3 : T1 ≤ (l.length : Int) := by omega
    have g4 : x < (l.length : Int) := by omega
    have hbad : bad r d l n t = decide (w1 > lim) := by rw [bad, hw1, hlim]
    simp only [fbIn, hbad, decide_eq_true_eq]
    clear hrb hwb hwb2 hst hlim hbad
    by_cases c : w1 > lim
    · rw [if_pos c]
      have er : ([(n : Int), (t : Int)] : List Int) = [x, T] := by rw [hxn, hT]
      constructor
      · refine Tells.succ ?_
        simp only [impl_FirstBreach.l1, e5, e2, e3, e4, e8, e7]
        simp only [if_pos g1, if_pos g2, if_pos g3, if_pos (show 0 ≤ x from g1), er]
        exact Tells.bind hwt (Tells.now fun k => by rw [if_pos c])
      · refine Tells.succ (Tells.now fun k => ?_)
        simp only [spec_FirstBreach.l1, e6, e2, e3, e4, e7]
        rw [if_pos g1, if_pos g1, if_pos g4, if_pos c, er]
    · rw [if_neg c]
      constructor
      · refine Tells.succ ?_
        simp only [impl_FirstBreach.l1, e5, e2, e3, e4, e8, e7]
        simp only [if_pos g1, if_pos g2, if_pos g3, if_pos (show 0 ≤ x from g1)]
        exact Tells.bind hwt (Tells.congr (fun k => by rw [if_neg c]) i2.1)
      · refine Tells.step (fun k => ?_) i2.2
        simp only [spec_FirstBreach.l1, e6, e2, e3, e4, e7]
        rw [if_pos g1, if_pos g1, if_pos g4, if_neg c]
theorem fb_outer (r d : Int) (l : List Int) (hr : 1 ≤ r ∧ r ≤ 100) (hd : 1 ≤ d ∧ d ≤ 1000) (ht : isTr l = true) (N : Int) (hN : N = (l.length : Int)) : ∀ (n t : Nat) (T : Int), T = (t : Int) → t + n = l.length →
    Tells (fun k => impl_FirstBreach.l0 k l N T r d) (fbOut r d l t n) ∧ Tells (fun k => spec_FirstBreach.l0 k l N T r d) (fbOut r d l t n) := by
  have hlen := (isTr_iff.mp ht).1
  intro n
  induction n with
  | zero =>
    intro t T hT h
    simp only [fbOut]
    constructor <;> refine Tells.succ (Tells.now fun k => ?_)
    · simp only [impl_FirstBreach.l0]; rw [if_neg (by omega)]
    · simp only [spec_FirstBreach.l0]; rw [if_neg (by omega)]
  | succ n ih =>
    intro t T hT h
    have h2 := ih (t + 1) (wrap64 (T + 1)) (by rw [w64 (by omega) (by omega)]; omega) (by omega)
    have h3 := fb_inner r d l hr hd ht t T hT (by omega) (fbOut r d l (t + 1) n) N T h2.1 h2.2 (t + 1) T 0 (by omega) (Nat.le_refl _) (win_past l t).symm
    simp only [fbOut]
    constructor
    · refine Tells.step (fun k => ?_) h3.1
      simp only [impl_FirstBreach.l0]; rw [if_pos (by omega)]
    · refine Tells.step (fun k => ?_) h3.2
      simp only [spec_FirstBreach.l0]; rw [if_pos (by omega)]
theorem firstBreach_tells (r d : Int) (l : List Int) : Tells (fun k => impl_FirstBreach.f k r d l) (fbR r d l) ∧ Tells (fun k => spec_FirstBreach.f k r d l) (fbR r d l) := by
  unfold impl_FirstBreach.f spec_FirstBreach.f fbR
  by_cases c : (isBk r d && isTr l) = true
  · have c' := c
    simp only [Bool.and_eq_true] at c'
    obtain ⟨hr, hd⟩ := isBk_iff.mp c'.1
    have h := fb_outer r d l hr hd c'.2 l.length rfl l.length 0 0 rfl (by omega)
    rw [if_pos c]
    constructor
    · simp only [isShaped_tells, Option.bind_some, c, if_true]
      exact h.1
    · refine Tells.bind (shAsked_tells r d l) ?_
      simp only [c, if_true]
      exact h.2
  · rw [if_neg c]
    constructor
    · simp only [isShaped_tells, Option.bind_some, if_neg c]
      exact Tells.now fun k => rfl
    · refine Tells.bind (shAsked_tells r d l) ?_
      simp only [if_neg c]
      exact Tells.now fun k => rfl
theorem lr_loop (d : Int) (l : List Int) (hd : 1 ≤ d ∧ d ≤ 1000) (ht : isTr l = true) : ∀ (n : Nat) (i : Int), 1 ≤ i → i + n = 101 →
    Tells (fun k => impl_LeastRate.l0 k d l i) (lrS d l n i) ∧ Tells (fun k => spec_LeastRate.l0 k d l i) (lrS d l n i) := by
  intro n
  induction n with
  | zero =>
    intro i h1 h2
    simp only [lrS]
    constructor <;> refine Tells.succ (Tells.now fun k => ?_)
    · simp only [impl_LeastRate.l0]; rw [if_neg (by omega)]
    · simp only [spec_LeastRate.l0]; rw [if_neg (by omega)]
  | succ n ih =>
    intro i h1 h2
    have h3 := ih (i + 1) (by omega) (by omega)
    have hb : isBk i d = true := isBk_iff.mpr ⟨by omega, hd⟩
    have hl := (levels_tells i d l hb ht).1
    have hk := shKeeps_tells i d l hb ht
    have e : wrap64 (i + 1) = i + 1 := w64 (by omega) (by omega)
    simp only [lrS]
    constructor
    · refine Tells.succ ?_
      simp only [impl_LeastRate.l0, e]
      refine Tells.congr (f := fun k => (impl_Bucket_levels.f k i d l).bind fun bt => if bt.2 = true then some (i, true) else impl_LeastRate.l0 k d l (i + 1)) (fun k => by rw [if_pos (by omega)]) ?_
      refine Tells.bind hl ?_
      rw [levSnd]
      by_cases c : kp i d d l = true
      · rw [if_pos c]; exact Tells.now fun k => by rw [if_pos c]
      · rw [if_neg c]; exact Tells.congr (fun k => by rw [if_neg c]) h3.1
    · refine Tells.succ ?_
      simp only [spec_LeastRate.l0, e]
      refine Tells.congr (f := fun k => (spec_shKeeps.f k i d l).bind fun bt => if bt = true then some (i, true) else spec_LeastRate.l0 k d l (i + 1)) (fun k => by rw [if_pos (by omega)]) ?_
      refine Tells.bind hk ?_
      by_cases c : kp i d d l = true
      · rw [if_pos c]; exact Tells.now fun k => by rw [if_pos c]
      · rw [if_neg c]; exact Tells.congr (fun k => by rw [if_neg c]) h3.2
theorem leastRate_tells (d : Int) (l : List Int) : Tells (fun k => impl_LeastRate.f k d l) (lrR d l) ∧ Tells (fun k => spec_LeastRate.f k d l) (lrR d l) := by
  unfold impl_LeastRate.f spec_LeastRate.f lrR
  simp only [impl_isDepth.f, within_tells, in_tells, isTraffic_tells, Option.bind_some]
  have hj0 : Tells (fun k => impl_LeastRate.j0 k d l true) (0, false) := Tells.succ (Tells.now fun k => by simp only [impl_LeastRate.j0, if_true])
  have hj1 : Tells (fun k => spec_LeastRate.j0 k d l true) (0, false) := Tells.succ (Tells.now fun k => by simp only [spec_LeastRate.j0, if_true])
  have hsk := shTraffic_tells l
  cases c1 : inB 1 1000 d
  · exact ⟨by simpa using hj0, by simpa using hj1⟩
  · cases c3 : isTr l
    · refine ⟨by simpa using hj0, ?_⟩
      simp only [if_true]
      rw [c3] at hsk
      refine Tells.bind hsk ?_
      simpa using hj1
    · rw [c3] at hsk
      have h := lr_loop d l (inB_iff.mp c1) c3 100 1 (by omega) (by omega)
      simp only [Bool.and_self, if_true, Bool.not_true]
      constructor
      · refine Tells.succ ?_
        simp only [impl_LeastRate.j0, if_neg (show ¬ false = true by decide)]
        exact h.1
      · refine Tells.bind hsk (Tells.succ ?_)
        simp only [spec_LeastRate.j0, if_neg (show ¬ false = true by decide), Bool.not_true]
        exact h.2
end Go.Proofs.Ythecknnmfghilaa.PA
