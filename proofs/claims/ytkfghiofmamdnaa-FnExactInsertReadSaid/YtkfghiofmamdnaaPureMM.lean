/- The marking of lists of messages, as the laws ask it; no condition but lengths. -/
import Derived.Test.YtkfghiofmamdnaaPureMsg
import Derived.Test.YtkfghiofmamdnaaPA27
namespace Go.Proofs.Ytkfghiofmamdnaa.PA
open Go.RowKit Go.Proofs.YtkfghiofmamdnaaW.PrintWords Go.Proofs.YtkfghiofmamdnaaW.PrintLast Go.Proofs.YtkfghiofmamdnaaW.PrintMore
theorem markMessageS_l0 (d : Nat) : ∀ (k i : Nat) (x : List S60) (v : Int), i ≤ x.length → x.length - i = d → d < k → 0 ≤ v → v ≤ 1 + 3 * (i : Int) → x.length < 1000000000000 →
    ∃ r, laws_markMessageS.l0 k x v (i : Int) = some r ∧ 0 ≤ r.1 := by
  induction d with
  | zero =>
    intro k i x v h1 hd hk h0 hv hl
    obtain ⟨k, rfl⟩ : ∃ m, k = m + 1 := ⟨k - 1, by omega⟩
    simp only [laws_markMessageS.l0]
    rw [if_neg (by omega)]
    exact ⟨_, rfl, h0⟩
  | succ d ih =>
    intro k i x v h1 hd hk h0 hv hl
    obtain ⟨k, rfl⟩ : ∃ m, k = m + 1 := ⟨k - 1, by omega⟩
    simp only [laws_markMessageS.l0, Option.bind_some]
    rw [if_pos (by omega), if_pos (by omega), w64 (x := v + 1) (by omega) (by omega), w64 (x := v + 1 + 1) (by omega) (by omega), w64 (x := v + 1 + 1 + 1) (by omega) (by omega), w64 (x := (i : Int) + 1) (by omega) (by omega)]
    exact ih k (i + 1) _ _ (by simp only [List.length_set]; omega) (by simp only [List.length_set]; omega) (by omega) (by omega) (by omega) (by simp only [List.length_set]; omega)
theorem markMessageS_tells (l : List S60) (hl : l.length < 1000000000000) {k : Nat} (hk : l.length < k) : ∃ r, laws_markMessageS.f k l 1 = some r ∧ 0 ≤ r.1 := markMessageS_l0 l.length k 0 l 1 (by omega) (by omega) hk (by omega) (by omega) hl
end Go.Proofs.Ytkfghiofmamdnaa.PA
