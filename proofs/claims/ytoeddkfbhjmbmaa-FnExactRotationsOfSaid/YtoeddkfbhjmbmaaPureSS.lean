/- Rows of numbers are copied as they are, are the same as themselves, and their sizes are counted; no condition but lengths below 2^43. -/
import Derived.Test.YtoeddkfbhjmbmaaPureEq
import Derived.Test.YtoeddkfbhjmbmaaPureTo
import Derived.Test.YtoeddkfbhjmbmaaPA40
import Derived.Test.YtoeddkfbhjmbmaaPA45
import Derived.Test.YtoeddkfbhjmbmaaPA35
namespace Go.Proofs.Ytoeddkfbhjmbmaa.PA
open Go.RowKit Go.Proofs.YtoeddkfbhjmbmaaW.PrintWords Go.Proofs.YtoeddkfbhjmbmaaW.PrintLast Go.Proofs.YtoeddkfbhjmbmaaW.PrintMore

/-- Rows that memory lets be. -/
def Rows44 (x : List (List Int)) : Prop := x.length ≤ 5864062014805 ∧ ∀ r ∈ x, r.length ≤ 17592186044416
theorem szIntSS_some (x : List (List Int)) (hx : Rows44 x) (z : Int) : ∃ q, Tells (fun k => laws_szIntSS.f k x z) q := by
  have key := for_rule (fun k i (v : Int) => laws_szIntSS.l0 k x v (i : Int)) x.length (fun _ _ => True) (fun _ => True)
    (fun i v hi _ => by
      have h1 := hx.1
      by_cases c : wrap64 (v - ((rd_L2 x (i : Int)).length : Int)) < 0
      · refine .inr ⟨-1, Tells.succ (Tells.now fun k => ?_), trivial⟩
        simp only [laws_szIntSS.l0, laws_szIntS.f]
        rw [if_pos (by omega), if_pos (by omega), if_pos c]
        rfl
      · refine .inl ⟨wrap64 (v - ((rd_L2 x (i : Int)).length : Int)), ⟨0, fun k _ => ?_⟩, trivial⟩
        simp only [laws_szIntSS.l0, laws_szIntS.f]
        rw [if_pos (by omega), if_pos (by omega), if_neg c, w64 (x := (i : Int) + 1) (by omega) (by omega)]
        simp only [Option.bind_some]
        rw [if_neg c]
        rfl)
    (fun v _ => ⟨v, Tells.succ (Tells.now fun k => by
      simp only [laws_szIntSS.l0]
      rw [if_neg (by omega)]), trivial⟩)
  simp only [laws_szIntSS.f]
  by_cases c : wrap64 (z - (x.length : Int)) < 0
  · simp only [c, if_true]
    exact ⟨-1, Tells.now fun _ => rfl⟩
  · simp only [c, if_false]
    obtain ⟨q, hq, _⟩ := key 0 (wrap64 (z - (x.length : Int))) (by omega) trivial
    exact ⟨q, hq⟩
theorem toIntSS_tells (x : List (List Int)) (hx : Rows44 x) : Tells (fun k => laws_toIntSS.f k x) x := by
  have h1 := hx.1
  have key := for_rule (fun k i (v : List (List Int)) => laws_toIntSS.l0 k x v (i : Int)) x.length (fun i v => v.length = x.length ∧ v.take i = x.take i) (fun r => r = x)
    (fun i v hi hv => by
      obtain ⟨K, hK⟩ := toIntS_tells x[i] (hx.2 _ (List.getElem_mem hi))
      refine .inl ⟨v.set i x[i], ⟨K, fun k hk => ?_⟩, by simpa using hv.1, ?_⟩
      · simp only [laws_toIntSS.l0]
        have e : rd_L2 x (i : Int) = x[i] := by
          unfold rd_L2
          simp [List.getD, hi]
        have e2 := hK k hk
        simp only at e2
        rw [if_pos (by omega), if_pos (by omega), e, e2]
        simp only [Option.bind_some]
        rw [if_pos (by have := hv.1; omega), w64 (x := (i : Int) + 1) (by omega) (by omega), Int.toNat_natCast]
        rfl
      · rw [take_set_succ v i _ (by have := hv.1; omega), hv.2, List.take_succ_eq_append_getElem hi])
    (fun v hv => ⟨v, Tells.succ (Tells.now fun k => by
      simp only [laws_toIntSS.l0]
      rw [if_neg (by omega)]), by
      have := hv.2
      rw [List.take_of_length_le (by have := hv.1; omega), List.take_of_length_le (Nat.le_refl _)] at this
      exact this⟩)
  obtain ⟨q, hq, rfl⟩ := key 0 (List.replicate x.length []) (by omega) ⟨by simp, by simp⟩
  simp only [laws_toIntSS.f, show (0 : Int) ≤ (q.length : Int) from by omega, Int.toNat_natCast, show q.length ≤ 11728124029610 from by omega, if_true]
  exact hq
theorem eqIntSS_tells (x : List (List Int)) (hx : Rows44 x) : Tells (fun k => laws_eqIntSS.f k x x) true := by
  have h1 := hx.1
  have key := for_rule (fun k i (_ : Unit) => laws_eqIntSS.l0 k x x (i : Int)) x.length (fun _ _ => True) (fun r => r = true)
    (fun i v hi _ => by
      obtain ⟨K, hK⟩ := eqIntS_tells x[i] (by have := hx.2 _ (List.getElem_mem hi); omega)
      refine .inl ⟨(), ⟨K, fun k hk => ?_⟩, trivial⟩
      simp only [laws_eqIntSS.l0]
      have e : rd_L2 x (i : Int) = x[i] := by
        unfold rd_L2
        simp [List.getD, hi]
      have e2 := hK k hk
      simp only at e2
      rw [if_pos (by omega), if_pos (by omega), if_pos (by omega), e, e2]
      simp only [Option.bind_some, if_true]
      rw [w64 (x := (i : Int) + 1) (by omega) (by omega)]
      rfl)
    (fun v _ => ⟨true, Tells.succ (Tells.now fun k => by
      simp only [laws_eqIntSS.l0]
      rw [if_neg (by omega)]), rfl⟩)
  obtain ⟨q, hq, rfl⟩ := key 0 () (by omega) trivial
  simp only [laws_eqIntSS.f, if_true]
  exact hq
end Go.Proofs.Ytoeddkfbhjmbmaa.PA
