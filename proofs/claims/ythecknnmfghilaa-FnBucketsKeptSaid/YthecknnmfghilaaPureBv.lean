/- Least depths: what the printed functions tell; no condition but what each names. -/
import Derived.Test.YthecknnmfghilaaPureBu
namespace Go.Proofs.Ythecknnmfghilaa.PA
open Go Go.RowKit Go.Proofs.YthecknnmfghilaaW.PrintWords Go.Proofs.YthecknnmfghilaaW.PrintLast Go.Proofs.YthecknnmfghilaaW.PrintMore
set_option linter.unusedVariables false
set_option linter.unusedSimpArgs false
def ldEnd (r : Int) (l : List Int) (p : Int × Bool) : Prop := ∃ y, Top (want r l) (allP l) y ∧ ((1000 < y ∧ p = (0, false)) ∨ (y ≤ 1000 ∧ p = (y, true)))
theorem ldEnd_of {r : Int} {l : List Int} {y : Int} (h : Top (want r l) (allP l) y) : ldEnd r l (if y > 1000 then (0, false) else (y, true)) := by
  refine ⟨y, h, ?_⟩
  by_cases c : y > 1000
  · rw [if_pos c]; exact .inl ⟨c, rfl⟩
  · rw [if_neg c]; exact .inr ⟨by omega, rfl⟩
theorem ldi_inner (r : Int) (l : List Int) (hr : 1 ≤ r ∧ r ≤ 100) (ht : isTr l = true) (t : Nat) (T N T1 : Int) (hT : T = (t : Int)) (hT1 : T1 = T + 1) (hlt : t < l.length)
    (hn : ∀ b, Top (want r l) (fun a b => a ≤ b ∧ b < t + 1) b → ∃ p, Tells (fun k => impl_LeastDepth.l0 k r l b N T1) p ∧ ldEnd r l p) : ∀ (m s : Nat) (x b : Int), x = (s : Int) → s + m = t + 1 → Top (want r l) (fun u v => (u ≤ v ∧ v < t) ∨ (v = t ∧ u < s)) b →
    ∃ p, Tells (fun k => impl_LeastDepth.l1 k r l b T N T T1 x) p ∧ ldEnd r l p := by
  have hlen := (isTr_iff.mp ht).1
  have e1 : wrap64 (T + 1) = T1 := by rw [w64 (by omega) (by omega)]; exact hT1.symm
  intro m
  induction m with
  | zero =>
    intro s x b hx hs hb
    obtain ⟨p, hp, hq⟩ := hn b (hb.congr fun u v => by omega)
    refine ⟨p, Tells.step (fun k => ?_) hp, hq⟩
    simp only [impl_LeastDepth.l1, e1]
    rw [if_neg (by omega)]
  | succ m ih =>
    intro s x b hx hs hb
    have hrb := rate_bound hr (t - s) (by omega)
    have hwb := win_bd ht s t (by omega) hlt
    have h2 := hb.step (Q := fun u v => (u ≤ v ∧ v < t) ∨ (v = t ∧ u < s + 1)) s t (fun u v => by omega)
    obtain ⟨w1, hw1⟩ : ∃ y : Int, y = win l s t := ⟨_, rfl⟩
    obtain ⟨c1, hc1⟩ : ∃ y : Int, y = want r l s t := ⟨_, rfl⟩
    obtain ⟨y, hy⟩ : ∃ y : Int, y = x + 1 := ⟨_, rfl⟩
    rw [← hc1] at h2
    obtain ⟨b', hb'⟩ : ∃ y : Int, y = mx b c1 := ⟨_, rfl⟩
    rw [← hb'] at h2
    obtain ⟨p, hp, hq⟩ := ih (s + 1) y b' (by omega) (by omega) h2
    have e2 : wrap64 (T - x) = ((t - s : Nat) : Int) := by rw [w64 (by omega) (by omega)]; omega
    have e3 : wrap64 (r * ((t - s : Nat) : Int)) = r * ((t - s : Nat) : Int) := w64 (by omega) (by omega)
    have e4 : wrap64 (w1 - r * ((t - s : Nat) : Int)) = c1 := by rw [w64 (by omega) (by omega), hw1, hc1]; rfl
    have e7 : wrap64 (x + 1) = y := by rw [w64 (by omega) (by omega)]; exact hy.symm
    have e8 : (l.take T1.toNat).drop x.toNat = (l.take (t + 1)).drop s := by
      rw [show T1.toNat = t + 1 by omega, show x.toNat = s by omega]
    obtain ⟨hwt, _⟩ := win_tells l ht s t
    rw [← hw1] at hwt
    have g0 : x < T1 := by omega
    have g1 : 0 ≤ x := by omega
    have g2 : x ≤ T1 := by omega
    have g3 : T1 ≤ (l.length : Int) := by omega
    refine ⟨p, Tells.succ ?_, hq⟩
    simp only [impl_LeastDepth.l1, e1, e2, e3, e7, e8]
    simp only [if_pos g0, if_pos g1, if_pos g2, if_pos g3]
    refine Tells.bind hwt ?_
    rw [e4, ← hb']
    exact hp
theorem ldi_outer (r : Int) (l : List Int) (hr : 1 ≤ r ∧ r ≤ 100) (ht : isTr l = true) (N : Int) (hN : N = (l.length : Int)) : ∀ (n t : Nat) (T b : Int), T = (t : Int) → t + n = l.length → Top (want r l) (fun a b => a ≤ b ∧ b < t) b →
    ∃ p, Tells (fun k => impl_LeastDepth.l0 k r l b N T) p ∧ ldEnd r l p := by
  have hlen := (isTr_iff.mp ht).1
  intro n
  induction n with
  | zero =>
    intro t T b hT h hb
    refine ⟨_, Tells.succ (Tells.now fun k => ?_), ldEnd_of (hb.congr fun u v => by unfold allP; omega)⟩
    simp only [impl_LeastDepth.l0]
    rw [if_neg (by omega)]
    by_cases c : b > 1000
    · rw [if_pos c, if_pos c]
    · rw [if_neg c, if_neg c]
  | succ n ih =>
    intro t T b hT h hb
    obtain ⟨T1, hT1⟩ : ∃ y : Int, y = T + 1 := ⟨_, rfl⟩
    have e1 : wrap64 (T + 1) = T1 := by rw [w64 (by omega) (by omega)]; exact hT1.symm
    obtain ⟨p, hp, hq⟩ := ldi_inner r l hr ht t T N T1 hT hT1 (by omega) (fun b hb => ih (t + 1) T1 b (by omega) (by omega) hb) (t + 1) 0 0 b rfl (by omega) (hb.congr fun u v => by omega)
    refine ⟨p, Tells.step (fun k => ?_) hp, hq⟩
    simp only [impl_LeastDepth.l0, e1]
    rw [if_pos (by omega)]
theorem lds_inner (r : Int) (l : List Int) (hr : 1 ≤ r ∧ r ≤ 100) (ht : isTr l = true) (t : Nat) (T N T1 : Int) (hT : T = (t : Int)) (hT1 : T1 = T + 1) (hlt : t < l.length)
    (hn : ∀ b, Top (want r l) (fun a b => a ≤ b ∧ b < t + 1) b → ∃ p, Tells (fun k => spec_LeastDepth.l0 k r l b N T1) p ∧ ldEnd r l p) : ∀ (n : Nat) (x w b : Int), x + 1 = (n : Int) → n ≤ t + 1 → w = win l n t → Top (want r l) (fun u v => (u ≤ v ∧ v < t) ∨ (v = t ∧ n ≤ u ∧ u ≤ t)) b →
    ∃ p, Tells (fun k => spec_LeastDepth.l1 k r l b T w x N T) p ∧ ldEnd r l p := by
  have hlen := (isTr_iff.mp ht).1
  have e1 : wrap64 (T + 1) = T1 := by rw [w64 (by omega) (by omega)]; exact hT1.symm
  intro n
  induction n with
  | zero =>
    intro x w b hx hs hw hb
    obtain ⟨p, hp, hq⟩ := hn b (hb.congr fun u v => by omega)
    refine ⟨p, Tells.step (fun k => ?_) hp, hq⟩
    simp only [spec_LeastDepth.l1, e1]
    rw [if_neg (by omega)]
  | succ n ih =>
    intro x w b hx hs hw hb
    have hrb := rate_bound hr (t - n) (by omega)
    have hwb := win_bd ht n t (by omega) hlt
    have hwb2 := win_bd ht (n + 1) t (by omega) hlt
    have hst := win_step l n t (by omega) hlt
    have h2 := hb.step (Q := fun u v => (u ≤ v ∧ v < t) ∨ (v = t ∧ n ≤ u ∧ u ≤ t)) n t (fun u v => by omega)
    have hxn : x = (n : Int) := by omega
    obtain ⟨w1, hw1⟩ : ∃ y : Int, y = win l n t := ⟨_, rfl⟩
    obtain ⟨c1, hc1⟩ : ∃ y : Int, y = want r l n t := ⟨_, rfl⟩
    obtain ⟨y, hy⟩ : ∃ y : Int, y = x - 1 := ⟨_, rfl⟩
    rw [← hc1] at h2
    obtain ⟨b', hb'⟩ : ∃ y : Int, y = mx b c1 := ⟨_, rfl⟩
    rw [← hb'] at h2
    obtain ⟨p, hp, hq⟩ := ih y w1 b' (by omega) (by omega) hw1 h2
    have e2 : wrap64 (T - x) = ((t - n : Nat) : Int) := by rw [w64 (by omega) (by omega)]; omega
    have e3 : wrap64 (r * ((t - n : Nat) : Int)) = r * ((t - n : Nat) : Int) := w64 (by omega) (by omega)
    have e4 : wrap64 (w1 - r * ((t - n : Nat) : Int)) = c1 := by rw [w64 (by omega) (by omega), hw1, hc1]; rfl
    have e6 : wrap64 (w + rd l x) = w1 := by rw [hxn, w64 (by omega) (by omega)]; omega
    have e7 : wrap64 (x - 1) = y := by rw [w64 (by omega) (by omega)]; exact hy.symm
    have g1 : x ≥ 0 := by omega
    have g4 : x < (l.length : Int) := by omega
    refine ⟨p, Tells.step (fun k => ?_) hp, hq⟩
    simp only [spec_LeastDepth.l1, e1, e2, e3, e6, e7, e4, most_tells, Option.bind_some, ← hb']
    rw [if_pos g1, if_pos g1, if_pos g4]
theorem lds_outer (r : Int) (l : List Int) (hr : 1 ≤ r ∧ r ≤ 100) (ht : isTr l = true) (N : Int) (hN : N = (l.length : Int)) : ∀ (n t : Nat) (T b : Int), T = (t : Int) → t + n = l.length → Top (want r l) (fun a b => a ≤ b ∧ b < t) b →
    ∃ p, Tells (fun k => spec_LeastDepth.l0 k r l b N T) p ∧ ldEnd r l p := by
  have hlen := (isTr_iff.mp ht).1
  intro n
  induction n with
  | zero =>
    intro t T b hT h hb
    refine ⟨_, Tells.succ (Tells.now fun k => ?_), ldEnd_of (hb.congr fun u v => by unfold allP; omega)⟩
    simp only [spec_LeastDepth.l0]
    rw [if_neg (by omega)]
    by_cases c : b > 1000
    · rw [if_pos c, if_pos c]
    · rw [if_neg c, if_neg c]
  | succ n ih =>
    intro t T b hT h hb
    obtain ⟨T1, hT1⟩ : ∃ y : Int, y = T + 1 := ⟨_, rfl⟩
    obtain ⟨p, hp, hq⟩ := lds_inner r l hr ht t T N T1 hT hT1 (by omega) (fun b hb => ih (t + 1) T1 b (by omega) (by omega) hb) (t + 1) T 0 b (by omega) (Nat.le_refl _) (win_past l t).symm (hb.congr fun u v => by omega)
    refine ⟨p, Tells.step (fun k => ?_) hp, hq⟩
    simp only [spec_LeastDepth.l0]
    rw [if_pos (by omega)]
theorem leastDepth_tells (r : Int) (l : List Int) : ∃ x b, Tells (fun k => impl_LeastDepth.f k r l) (x, b) ∧ Tells (fun k => spec_LeastDepth.f k r l) (x, b) ∧ ldOk r l x b := by
  unfold impl_LeastDepth.f spec_LeastDepth.f
  simp only [impl_isRate.f, spec_shRate.f, within_tells, in_tells, isTraffic_tells, Option.bind_some]
  have hj0 : Tells (fun k => impl_LeastDepth.j0 k r l true) (0, false) := Tells.succ (Tells.now fun k => by simp only [impl_LeastDepth.j0, if_true])
  have hj1 : Tells (fun k => spec_LeastDepth.j0 k r l true) (0, false) := Tells.succ (Tells.now fun k => by simp only [spec_LeastDepth.j0, if_true])
  have hsk := shTraffic_tells l
  cases c1 : inB 1 100 r
  · exact ⟨0, false, by simpa using hj0, by simpa using hj1, .inr (by simp [c1])⟩
  · cases c3 : isTr l
    · refine ⟨0, false, by simpa using hj0, ?_, .inr (by simp [c3])⟩
      simp only [if_true]
      rw [c3] at hsk
      refine Tells.bind hsk ?_
      simpa using hj1
    · rw [c3] at hsk
      obtain ⟨p, hp, hq⟩ := ldi_outer r l (inB_iff.mp c1) c3 _ rfl l.length 0 0 1 rfl (by omega) ((Top.one _).congr fun u v => by simp)
      obtain ⟨p', hp', hq'⟩ := lds_outer r l (inB_iff.mp c1) c3 _ rfl l.length 0 0 1 rfl (by omega) ((Top.one _).congr fun u v => by simp)
      have ho : ∀ p : Int × Bool, ldEnd r l p → ldOk r l p.1 p.2 := by
        rintro ⟨x, b⟩ ⟨y, h1, h2⟩
        refine .inl ⟨by simp [c1, c3], y, h1, ?_⟩
        rcases h2 with ⟨h2, h3⟩ | ⟨h2, h3⟩
        · cases h3; exact .inl ⟨h2, rfl, rfl⟩
        · cases h3; exact .inr ⟨h2, rfl, rfl⟩
      have hu := ldOk_unique (ho p hq) (ho p' hq')
      obtain rfl : p = p' := Prod.ext hu.1 hu.2
      simp only [if_true, Bool.not_true]
      refine ⟨p.1, p.2, ?_, ?_, ho p hq⟩
      · refine Tells.succ ?_
        simp only [impl_LeastDepth.j0, if_neg (show ¬ false = true by decide)]
        exact hp
      · refine Tells.bind hsk (Tells.succ ?_)
        simp only [spec_LeastDepth.j0, if_neg (show ¬ false = true by decide), Bool.not_true]
        exact hp'
end Go.Proofs.Ythecknnmfghilaa.PA
