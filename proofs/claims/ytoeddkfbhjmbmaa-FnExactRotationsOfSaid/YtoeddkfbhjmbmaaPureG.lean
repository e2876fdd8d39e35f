/- The law on GreatestRotation comes to true; no condition but that the lists are no longer than memory lets them be. -/
import Derived.Below
import Derived.Test.YtoeddkfbhjmbmaaVisits
import Derived.Test.YtoeddkfbhjmbmaaPureSS
import Derived.Test.YtoeddkfbhjmbmaaPA46
namespace Go.Proofs.Ytoeddkfbhjmbmaa.PA
open Go.RowKit Go.Proofs.YtoeddkfbhjmbmaaW.PrintWords Go.Proofs.YtoeddkfbhjmbmaaW.PrintLast Go.Proofs.YtoeddkfbhjmbmaaW.PrintMore

theorem toRing_tells (t w : Int) (l : List Int) (hl : l.length ≤ 17592186044416) : Tells (fun k => laws_toTimedRing.f k t w l) (t, w, l) := by
  simp only [laws_toTimedRing.f]
  refine Tells.bind (toIntS_tells l hl) ?_
  exact Tells.now fun _ => rfl
theorem eqRing_tells (t w : Int) (l : List Int) (hl : l.length ≤ 17592186044416) : Tells (fun k => laws_eqTimedRing.f k t w l t w l) true := by
  simp only [laws_eqTimedRing.f, if_true]
  refine Tells.bind (eqIntS_tells l (by omega)) ?_
  exact Tells.now fun _ => rfl
theorem szRing_some (t w : Int) (l : List Int) (z : Int) : ∃ x, laws_szTimedRing.f t w l z = some x := by
  simp only [laws_szTimedRing.f, laws_szIntS.f]
  by_cases c : wrap64 (z - (l.length : Int)) < 0 <;> simp [c]

/-- The greatest number, a at least. -/
def mostOf (a : Int) : List Int → Int
  | [] => a
  | x :: l => mostOf (mx a x) l
theorem greatest_l0 (l : List Int) (hl : l.length < 4611686018427387904) (d : Nat) : ∀ (i : Nat) (a : Int), i ≤ l.length → l.length - i = d →
    Tells (fun k => impl_greatest.l0 k a l (l.length : Int) (i : Int)) (mostOf a (l.drop i)) ∧ Tells (fun k => spec_GreatestRotation.l0 k a l (l.length : Int) (i : Int)) (mostOf a (l.drop i), true) := by
  induction d with
  | zero =>
    intro i a h1 hd
    rw [List.drop_of_length_le (by omega)]
    constructor
    · refine Tells.succ (Tells.now fun k => ?_)
      simp only [impl_greatest.l0]
      rw [if_neg (by omega)]
      rfl
    · refine Tells.succ (Tells.now fun k => ?_)
      simp only [spec_GreatestRotation.l0]
      rw [if_neg (by omega)]
      rfl
  | succ d ih =>
    intro i a h1 hd
    have hin : i < l.length := by omega
    obtain ⟨h2, h3⟩ := ih (i + 1) (mx a l[i]) (by omega) (by omega)
    rw [List.drop_eq_getElem_cons hin]
    constructor
    · refine Tells.step (fun k => ?_) h2
      simp only [impl_greatest.l0]
      rw [if_pos (by omega), if_pos (by omega), if_pos (by omega), rd_at l i hin, w64 (by omega) (by omega)]
      rfl
    · refine Tells.step (fun k => ?_) h3
      simp only [spec_GreatestRotation.l0, most_tells, Option.bind_some]
      rw [if_pos (by omega), if_pos (by omega), if_pos (by omega), rd_at l i hin, w64 (by omega) (by omega)]
      rfl
theorem greatestRotation_tell (t w : Int) (l : List Int) (ws : List (List Int)) (hl : l.length ≤ 17592186044416) (hw : Rows44 ws) :
    ∃ q, Tells (fun k => spec_GreatestRotation.f k t w l ws) q ∧ Tells (fun k => impl_GreatestRotation.f k t w l ws) q := by
  have hr : ∀ row ∈ ws, row.length < 4611686018427387904 := fun row h => by have := hw.2 row h; omega
  have hws := hw.1
  obtain ⟨h1, h2⟩ := wished_tells t w l (by omega) ws (by omega) hr
  cases c : wishedB t w l ws
  · rw [c] at h1 h2
    refine ⟨(0, false), ?_, ?_⟩
    · simp only [spec_GreatestRotation.f]
      exact Tells.bind h1 (Tells.now fun _ => rfl)
    · simp only [impl_GreatestRotation.f, impl_RotationsOf.f]
      refine Tells.bind (Tells.bind h2 (Tells.now fun _ => rfl)) ?_
      simp only [impl_greatest.f]
      have := (greatest_l0 [] (by simp) 0 0 0 (by simp) (by simp)).1
      exact Tells.bind this (Tells.now fun _ => rfl)
  · obtain ⟨out, g1, g2, g3⟩ := rotations_tell t w l ws c (by omega) hr
    rw [c] at h1
    obtain ⟨g4, g5⟩ := greatest_l0 out (by omega) out.length 0 0 (by omega) (by omega)
    refine ⟨(mostOf 0 out, true), ?_, ?_⟩
    · simp only [spec_GreatestRotation.f]
      refine Tells.bind h1 ?_
      simp only [if_true]
      exact Tells.bind g1 g5
    · simp only [impl_GreatestRotation.f]
      refine Tells.bind g2 ?_
      simp only [impl_greatest.f]
      exact Tells.bind g4 (Tells.now fun _ => rfl)
theorem greatestRotation_pure (t w : Int) (l : List Int) (ws : List (List Int)) (hl : l.length ≤ 17592186044416) (hw : Rows44 ws) : ∃ k, laws_FnExactGreatestRotation.f k t w l ws = some true := by
  refine Tells.at_ ?_
  obtain ⟨z, hz⟩ := szRing_some t w l 1048576
  simp only [laws_FnExactGreatestRotation.f, hz, Option.bind_some]
  by_cases c : z < 0
  · simp only [c, if_true]
    exact Tells.now fun _ => rfl
  simp only [c, if_false]
  obtain ⟨y, hy⟩ := szIntSS_some ws hw z
  refine Tells.bind hy ?_
  by_cases c : y < 0
  · simp only [c, if_true]
    exact Tells.now fun _ => rfl
  simp only [c, if_false]
  obtain ⟨q, h1, h2⟩ := greatestRotation_tell t w l ws hl hw
  refine Tells.bind (toRing_tells t w l hl) ?_
  refine Tells.bind (toIntSS_tells ws hw) ?_
  refine Tells.bind h1 ?_
  refine Tells.bind (toRing_tells t w l hl) ?_
  refine Tells.bind (toIntSS_tells ws hw) ?_
  refine Tells.bind h2 ?_
  simp only [if_true, bne_self_eq_false]
  refine Tells.succ ?_
  simp only [laws_FnExactGreatestRotation.j0, Bool.false_eq_true, if_false]
  refine Tells.bind (toRing_tells t w l hl) ?_
  refine Tells.bind (eqRing_tells t w l hl) ?_
  simp only [if_true]
  refine Tells.bind (toIntSS_tells ws hw) ?_
  refine Tells.bind (eqIntSS_tells ws hw) ?_
  exact Tells.now fun _ => rfl

theorem core_FnExactGreatestRotation (t w : Int) (A : Option Addr) (c : Nat) (l : List Int) (B : Option Addr) (e : Nat) (ws : List (List Int)) (W : World)
    (h : ((Lit.int .i64 t).wf = true ∧ (Lit.int .i64 w).wf = true) ∧ Kd.C (Kd.int .i64) W A l.length l ∧ l.length ≤ c ∧ l.length ≤ 17592186044416 ∧ ∀ x ∈ l, (Lit.int .i64 x).wf = true)
    (g : Kd.C (Kd.slice 3 (Kd.int .i64)) W B ws.length ws ∧ ws.length ≤ e ∧ ws.length ≤ 5864062014805 ∧ ∀ r ∈ ws, r.length ≤ 17592186044416 ∧ ∀ x ∈ r, (Lit.int .i64 x).wf = true) :
    Calls Try.prog 9 #[.agg #[.int .i64 t, .int .i64 w, .slice A l.length c], .slice B ws.length e] W fun e W' => e = .returned (.bool true) ∧ Below W.heap.size W W' := by
  obtain ⟨k, hk⟩ := greatestRotation_pure t w l ws h.2.2.2.1 ⟨g.2.2.1, fun r hr => (g.2.2.2 r hr).1⟩
  exact laws_FnExactGreatestRotation.calls k t w A c l B e ws W h.2.1 h.2.2.1 g.1 g.2.1 hk
end Go.Proofs.Ytoeddkfbhjmbmaa.PA
