/- Slot rings: what the programs answer; no condition but lengths. -/
import Derived.Test.YteeejellpcikkaaG5M8
set_option linter.unusedVariables false
set_option linter.unusedSimpArgs false
namespace Go.Proofs.Yteeejellpcikkaa.Ev.G5
open Go
set_option linter.unusedSimpArgs false
set_option linter.unusedVariables false

/-- Messages and their ring, as plain numbers. -/
def rgOf (r : Int × Bool) (ms : List Msg) : Rg := ⟨r.1.toNat, r.2, ms.length, fun i => (ms.getD i (0, 0, 0)).1.toNat, fun i => (ms.getD i (0, 0, 0)).2.1.toNat, fun i => (ms.getD i (0, 0, 0)).2.2.toNat⟩

theorem getD_at {ms : List Msg} {i : Nat} (h : i < ms.length) : ms[i]? = some (ms.getD i (0, 0, 0)) := by
  rw [List.getD_eq_getElem?_getD, List.getElem?_eq_getElem h]; rfl

theorem rg_ok {r : Int × Bool} {ms : List Msg} (h : slottedB r ms = true) : (rgOf r ms).Ok ∧ Rg.Fits (rgOf r ms) ms ∧ r = (((rgOf r ms).n : Int), (rgOf r ms).home) := by
  simp only [slottedB, Bool.and_eq_true, decide_eq_true_eq, inB_iff] at h
  obtain ⟨⟨h1, h2⟩, h3, h4⟩ := h
  have hw : w64 (r.1 - 1) = r.1 - 1 := w64_id (by omega) (by omega)
  have hx : ∀ i, i < ms.length → okAt r.1 ms (ms.getD i (0, 0, 0)) i = true := by
    intro i hi
    unfold allOk at h3
    rw [List.all_eq_true] at h3
    exact h3 i (List.mem_range.2 hi)
  have hy : ∀ i, i < ms.length → (0 ≤ (ms.getD i (0, 0, 0)).1 ∧ (ms.getD i (0, 0, 0)).1 ≤ 100) ∧ (0 ≤ (ms.getD i (0, 0, 0)).2.1 ∧ (ms.getD i (0, 0, 0)).2.1 ≤ r.1 - 1) ∧ (0 ≤ (ms.getD i (0, 0, 0)).2.2 ∧ (ms.getD i (0, 0, 0)).2.2 ≤ r.1 - 1) ∧ (ms.getD i (0, 0, 0)).2.1 ≠ (ms.getD i (0, 0, 0)).2.2 ∧ (0 < i → (ms.getD (i - 1) (0, 0, 0)).1 ≤ (ms.getD i (0, 0, 0)).1) := by
    intro i hi
    have := hx i hi
    simp only [okAt, msgB, aftB, Bool.and_eq_true, inB_iff, decide_eq_true_eq, hw] at this
    obtain ⟨⟨⟨⟨a, b⟩, c⟩, d⟩, e⟩ := this
    refine ⟨a, b, c, d, fun h0 => ?_⟩
    rw [if_pos h0] at e
    simpa using e
  refine ⟨⟨?_, ?_, h4, ?_, ?_, ?_, ?_, ?_⟩, ⟨rfl, ?_⟩, ?_⟩
  · show 2 ≤ r.1.toNat; omega
  · show r.1.toNat ≤ 12; omega
  · intro i hi; have := hy i hi; show (ms.getD i (0, 0, 0)).1.toNat ≤ 100; omega
  · intro i hi; have := hy i hi; show (ms.getD i (0, 0, 0)).2.1.toNat < r.1.toNat; omega
  · intro i hi; have := hy i hi; show (ms.getD i (0, 0, 0)).2.2.toNat < r.1.toNat; omega
  · intro i hi; have := hy i hi; show (ms.getD i (0, 0, 0)).2.1.toNat ≠ (ms.getD i (0, 0, 0)).2.2.toNat; omega
  · intro i j hij hj
    induction hij with
    | refl => exact Nat.le_refl _
    | step hij ih =>
      rename_i m
      have h5 := ih (Nat.lt_of_succ_lt hj)
      have h6 := (hy (m + 1) hj).2.2.2.2 (by omega)
      have h7 : (ms.getD m (0, 0, 0)).1.toNat ≤ (ms.getD (m + 1) (0, 0, 0)).1.toNat := by
        rw [Nat.add_sub_cancel] at h6; omega
      exact Nat.le_trans h5 h7
  · intro i hi
    have := hy i hi
    rw [getD_at hi]
    show some (ms.getD i (0, 0, 0)) = some (((ms.getD i (0, 0, 0)).1.toNat : Int), ((ms.getD i (0, 0, 0)).2.1.toNat : Int), ((ms.getD i (0, 0, 0)).2.2.toNat : Int))
    congr 1
    rw [Prod.ext_iff, Prod.ext_iff]
    dsimp only
    omega
  · rw [Prod.ext_iff]
    refine ⟨?_, rfl⟩
    show r.1 = ((r.1.toNat : Nat) : Int)
    omega

theorem slotted_of {g : Rg} {ms : List Msg} (o : g.Ok) (hm : Rg.Fits g ms) : slottedB ((g.n : Int), g.home) ms = true := by
  have h1 := o.n2
  have h2 := o.n12
  have hw : w64 ((g.n : Int) - 1) = (g.n : Int) - 1 := w64_id (by omega) (by omega)
  have hx : ∀ i m, ms[i]? = some m → okAt (g.n : Int) ms m i = true := by
    intro i m hi
    have hil : i < g.L := by
      obtain ⟨h, _⟩ := List.getElem?_eq_some_iff.1 hi
      rw [hm.len] at h
      exact h
    have hg := hm.get i hil
    rw [hi] at hg
    obtain rfl := by simpa using hg
    have h3 := o.tk i hil
    have h4 := o.fr i hil
    have h5 := o.to i hil
    have h6 := o.ne i hil
    simp only [okAt, msgB, aftB, Bool.and_eq_true, inB_iff, decide_eq_true_eq, hw]
    refine ⟨⟨⟨⟨by omega, by omega⟩, by omega⟩, by omega⟩, ?_⟩
    split
    · rw [List.getD_eq_getElem?_getD, hm.get (i - 1) (by omega)]
      have := o.mono (i - 1) i (by omega) hil
      simp
      omega
    · rfl
  simp only [slottedB, Bool.and_eq_true, decide_eq_true_eq, inB_iff]
  exact ⟨⟨by omega, by omega⟩, allOk_true hx, by rw [hm.len]; exact o.L20⟩

namespace Rg
variable {g : Rg} {ms : List Msg}

theorem impl_filled (o : g.Ok) (hm : Fits g ms) : impl_FilledAt ((g.n : Int), g.home) ms = some (g.ftL, true) := by
  unfold impl_FilledAt
  rw [slotted_eq _ _ (by rw [hm.len]; have := o.L20; omega), slotted_of o hm, Option.bind_some, if_neg (by simp), impl_slotted_ok o hm]
  rfl
theorem impl_read (o : g.Ok) (hm : Fits g ms) : impl_ReadAt ((g.n : Int), g.home) ms = some (g.reL, true) := by
  unfold impl_ReadAt
  rw [slotted_eq _ _ (by rw [hm.len]; have := o.L20; omega), slotted_of o hm, Option.bind_some, if_neg (by simp), impl_slotted_ok o hm]
  rfl

theorem ms_len (o : g.Ok) (hm : Fits g ms) : ms.length ≤ 1000000 := by rw [hm.len]; have := o.L20; omega
theorem slL_len {t : Nat} : (g.slL t).length = g.n := mapr_len
theorem ftL_len : g.ftL.length = g.L := mapr_len
theorem reL_len : g.reL.length = g.L := mapr_len
theorem ftL_at {i : Nat} (hi : i < g.L) : g.ftL[i]? = some (g.ft i : Int) := mapr_get hi
theorem reL_at {i : Nat} (hi : i < g.L) : g.reL[i]? = some ((g.ft i + g.hop i : Nat) : Int) := mapr_get hi
end Rg
end Go.Proofs.Yteeejellpcikkaa.Ev.G5
