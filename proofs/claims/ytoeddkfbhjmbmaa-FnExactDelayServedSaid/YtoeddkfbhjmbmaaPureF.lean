/- The laws on FixedWithin, FreeShare and RotationBound come to true; no condition but that the list is no longer than memory lets it be. -/
import Derived.Below
import Derived.Test.YtoeddkfbhjmbmaaTimed
import Derived.Test.YtoeddkfbhjmbmaaPureEq
import Derived.Test.YtoeddkfbhjmbmaaPureTo
import Derived.Test.YtoeddkfbhjmbmaaPA13
import Derived.Test.YtoeddkfbhjmbmaaPA16
import Derived.Test.YtoeddkfbhjmbmaaPA18
namespace Go.Proofs.Ytoeddkfbhjmbmaa.PA
open Go.RowKit Go.Proofs.YtoeddkfbhjmbmaaW.PrintWords Go.Proofs.YtoeddkfbhjmbmaaW.PrintLast Go.Proofs.YtoeddkfbhjmbmaaW.PrintMore

theorem timed_of {t w : Int} {l : List Int} (h : timedB t w l = true) : (1 ≤ l.length ∧ l.length ≤ 12) ∧ (1 ≤ t ∧ t ≤ 200) ∧ (1 ≤ w ∧ w ≤ 20) ∧ (∀ x ∈ l, 0 ≤ x ∧ x ≤ 200) ∧ busyOf w l ≤ t := by
  simp only [timedB, inB, Bool.and_eq_true, decide_eq_true_eq, List.all_eq_true] at h
  exact ⟨by omega, by omega, by omega, h.2.2.2.1, h.2.2.2.2⟩
theorem toRing_tells (t w : Int) (l : List Int) (hl : l.length ≤ 17592186044416) : Tells (fun k => laws_toTimedRing.f k t w l) (t, w, l) := by
  simp only [laws_toTimedRing.f]
  refine Tells.bind (toIntS_tells l hl) ?_
  exact Tells.now fun _ => rfl
theorem eqRing_tells (t w : Int) (l : List Int) (hl : l.length ≤ 17592186044416) : Tells (fun k => laws_eqTimedRing.f k t w l t w l) true := by
  simp only [laws_eqTimedRing.f, if_true]
  refine Tells.bind (eqIntS_tells l (by omega)) ?_
  exact Tells.now fun _ => rfl
theorem szRing_some (t w : Int) (l : List Int) (z : Int) : ∃ x, laws_szTimedRing.f t w l z = some x := by
  simp only [laws_szTimedRing.f, laws_szIntS.f]
  by_cases c : wrap64 (z - (l.length : Int)) < 0 <;> simp [c]

def fixedOf (t w : Int) (l : List Int) (s n : Int) : Int × Bool :=
  if timedB t w l && (inB 0 (wrap64 ((l.length : Int) - 1)) s && inB 0 100000 n) then (wrap64 (rd l s * wrap64 (1 + wrap64 (Int.tdiv n (wrap64 (2 * t))))), true) else (0, false)
theorem fixed_tells (t w : Int) (l : List Int) (s n : Int) (hl : l.length < 4611686018427387904) :
    Tells (fun k => impl_FixedWithin.f k t w l s n) (fixedOf t w l s n) ∧ Tells (fun k => spec_FixedWithin.f k t w l s n) (fixedOf t w l s n) := by
  have hz : timedB t w l = true → inB 0 (wrap64 ((l.length : Int) - 1)) s = true → 0 ≤ s ∧ s < (l.length : Int) ∧ ¬ wrap64 (2 * t) = 0 := by
    intro h1 h2
    have := timed_of h1
    rw [w64 (by omega) (by omega)] at h2
    simp [inB] at h2
    rw [w64 (by omega) (by omega)]
    omega
  constructor
  · simp only [impl_FixedWithin.f, within_tells, Option.bind_some]
    refine Tells.bind (timed_tells t w l hl) ?_
    refine Tells.now fun _ => ?_
    unfold fixedOf
    cases h1 : timedB t w l
    · simp
    · cases h2 : inB 0 (wrap64 ((l.length : Int) - 1)) s
      · simp
      · have := hz h1 h2
        cases h3 : inB 0 100000 n <;> simp [this]
  · simp only [spec_FixedWithin.f, in_tells, Option.bind_some]
    refine Tells.bind (specTimed_tells t w l hl) ?_
    refine Tells.now fun _ => ?_
    unfold fixedOf
    cases h1 : timedB t w l
    · simp
    · cases h2 : inB 0 (wrap64 ((l.length : Int) - 1)) s
      · simp
      · have := hz h1 h2
        cases h3 : inB 0 100000 n <;> simp [this]
theorem fixedWithin_pure (t w : Int) (l : List Int) (s n : Int) (hl : l.length ≤ 17592186044416) : ∃ k, laws_FnExactFixedWithin.f k t w l s n = some true := by
  refine Tells.at_ ?_
  obtain ⟨z, hz⟩ := szRing_some t w l 1048576
  simp only [laws_FnExactFixedWithin.f, hz, Option.bind_some]
  by_cases c : z < 0
  · simp only [c, if_true]
    exact Tells.now fun _ => rfl
  · simp only [c, if_false]
    refine Tells.bind (toRing_tells t w l hl) ?_
    refine Tells.bind (fixed_tells t w l s n (by omega)).2 ?_
    refine Tells.bind (toRing_tells t w l hl) ?_
    refine Tells.bind (fixed_tells t w l s n (by omega)).1 ?_
    simp only [if_true, bne_self_eq_false]
    refine Tells.succ ?_
    simp only [laws_FnExactFixedWithin.j0, Bool.false_eq_true, if_false]
    refine Tells.bind (toRing_tells t w l hl) ?_
    refine Tells.bind (eqRing_tells t w l hl) ?_
    exact Tells.now fun _ => rfl

def shareOf (t w : Int) (l : List Int) : Int × Bool := if timedB t w l then (wrap64 (t - busyOf w l), true) else (0, false)
theorem share_tells (t w : Int) (l : List Int) (hl : l.length < 4611686018427387904) :
    Tells (fun k => impl_FreeShare.f k t w l) (shareOf t w l) ∧ Tells (fun k => spec_FreeShare.f k t w l) (shareOf t w l) := by
  constructor
  · simp only [impl_FreeShare.f]
    refine Tells.bind (timed_tells t w l hl) ?_
    unfold shareOf
    cases h1 : timedB t w l
    · simp only [Bool.false_eq_true, if_false]
      exact Tells.now fun _ => rfl
    · simp only [if_true]
      exact Tells.bind (busy_tells t w l hl) (Tells.now fun _ => rfl)
  · simp only [spec_FreeShare.f]
    refine Tells.bind (specTimed_tells t w l hl) ?_
    unfold shareOf
    cases h1 : timedB t w l
    · simp only [Bool.false_eq_true, if_false]
      exact Tells.now fun _ => rfl
    · simp only [if_true]
      exact Tells.bind (used_tells t w l hl) (Tells.now fun _ => rfl)
theorem freeShare_pure (t w : Int) (l : List Int) (hl : l.length ≤ 17592186044416) : ∃ k, laws_FnExactFreeShare.f k t w l = some true := by
  refine Tells.at_ ?_
  obtain ⟨z, hz⟩ := szRing_some t w l 1048576
  simp only [laws_FnExactFreeShare.f, hz, Option.bind_some]
  by_cases c : z < 0
  · simp only [c, if_true]
    exact Tells.now fun _ => rfl
  · simp only [c, if_false]
    refine Tells.bind (toRing_tells t w l hl) ?_
    refine Tells.bind (share_tells t w l (by omega)).2 ?_
    refine Tells.bind (toRing_tells t w l hl) ?_
    refine Tells.bind (share_tells t w l (by omega)).1 ?_
    simp only [if_true, bne_self_eq_false]
    refine Tells.succ ?_
    simp only [laws_FnExactFreeShare.j0, Bool.false_eq_true, if_false]
    refine Tells.bind (toRing_tells t w l hl) ?_
    refine Tells.bind (eqRing_tells t w l hl) ?_
    exact Tells.now fun _ => rfl
def boundOf (t w : Int) (l : List Int) : Int × Bool := if timedB t w l then (wrap64 (2 * t), true) else (0, false)
theorem bound_tells (t w : Int) (l : List Int) (hl : l.length < 4611686018427387904) :
    Tells (fun k => impl_RotationBound.f k t w l) (boundOf t w l) ∧ Tells (fun k => spec_RotationBound.f k t w l) (boundOf t w l) := by
  constructor
  · simp only [impl_RotationBound.f]
    refine Tells.bind (timed_tells t w l hl) (Tells.now fun _ => ?_)
    unfold boundOf
    cases timedB t w l <;> rfl
  · simp only [spec_RotationBound.f]
    refine Tells.bind (specTimed_tells t w l hl) (Tells.now fun _ => ?_)
    unfold boundOf
    cases timedB t w l <;> rfl
theorem rotationBound_pure (t w : Int) (l : List Int) (hl : l.length ≤ 17592186044416) : ∃ k, laws_FnExactRotationBound.f k t w l = some true := by
  refine Tells.at_ ?_
  obtain ⟨z, hz⟩ := szRing_some t w l 1048576
  simp only [laws_FnExactRotationBound.f, hz, Option.bind_some]
  by_cases c : z < 0
  · simp only [c, if_true]
    exact Tells.now fun _ => rfl
  · simp only [c, if_false]
    refine Tells.bind (toRing_tells t w l hl) ?_
    refine Tells.bind (bound_tells t w l (by omega)).2 ?_
    refine Tells.bind (toRing_tells t w l hl) ?_
    refine Tells.bind (bound_tells t w l (by omega)).1 ?_
    simp only [if_true, bne_self_eq_false]
    refine Tells.succ ?_
    simp only [laws_FnExactRotationBound.j0, Bool.false_eq_true, if_false]
    refine Tells.bind (toRing_tells t w l hl) ?_
    refine Tells.bind (eqRing_tells t w l hl) ?_
    exact Tells.now fun _ => rfl

def RingFacts (W : World) (t w : Int) (A : Option Addr) (c : Nat) (l : List Int) : Prop :=
  ((Lit.int .i64 t).wf = true ∧ (Lit.int .i64 w).wf = true) ∧ Kd.C (Kd.int .i64) W A l.length l ∧ l.length ≤ c ∧ l.length ≤ 17592186044416 ∧ ∀ x ∈ l, (Lit.int .i64 x).wf = true
theorem core_FnExactFixedWithin (t w : Int) (A : Option Addr) (c : Nat) (l : List Int) (s n : Int) (W : World) (h : RingFacts W t w A c l) (_ : (Lit.int .i64 s).wf = true) (_ : (Lit.int .i64 n).wf = true) :
    Calls Try.prog 3 #[.agg #[.int .i64 t, .int .i64 w, .slice A l.length c], .int .i64 s, .int .i64 n] W fun e W' => e = .returned (.bool true) ∧ Below W.heap.size W W' := by
  obtain ⟨k, hk⟩ := fixedWithin_pure t w l s n h.2.2.2.1
  exact laws_FnExactFixedWithin.calls k t w A c l s n W h.2.1 h.2.2.1 hk
theorem core_FnExactFreeShare (t w : Int) (A : Option Addr) (c : Nat) (l : List Int) (W : World) (h : RingFacts W t w A c l) :
    Calls Try.prog 4 #[.agg #[.int .i64 t, .int .i64 w, .slice A l.length c]] W fun e W' => e = .returned (.bool true) ∧ Below W.heap.size W W' := by
  obtain ⟨k, hk⟩ := freeShare_pure t w l h.2.2.2.1
  exact laws_FnExactFreeShare.calls k t w A c l W h.2.1 h.2.2.1 hk
theorem core_FnExactRotationBound (t w : Int) (A : Option Addr) (c : Nat) (l : List Int) (W : World) (h : RingFacts W t w A c l) :
    Calls Try.prog 5 #[.agg #[.int .i64 t, .int .i64 w, .slice A l.length c]] W fun e W' => e = .returned (.bool true) ∧ Below W.heap.size W W' := by
  obtain ⟨k, hk⟩ := rotationBound_pure t w l h.2.2.2.1
  exact laws_FnExactRotationBound.calls k t w A c l W h.2.1 h.2.2.1 hk
end Go.Proofs.Ytoeddkfbhjmbmaa.PA
