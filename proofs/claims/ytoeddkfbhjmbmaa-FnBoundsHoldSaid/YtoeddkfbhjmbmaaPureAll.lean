/- All numbers lie between two others: what the reference and the program tell; no condition but lengths. -/
import Derived.Test.YtoeddkfbhjmbmaaPure0
import Derived.Test.YtoeddkfbhjmbmaaWithin
import Derived.Test.YtoeddkfbhjmbmaaPB2
namespace Go.Proofs.Ytoeddkfbhjmbmaa.PB
open Go.RowKit Go.Proofs.YtoeddkfbhjmbmaaW.PrintWords Go.Proofs.YtoeddkfbhjmbmaaW.PrintLast Go.Proofs.YtoeddkfbhjmbmaaW.PrintMore
theorem in_tells (x l h : Int) : spec_l1In.f x l h = some (inB l h x) := within_tells x l h
theorem l1All_l0 (lo hi : Int) (l : List Int) (hl : l.length < 4611686018427387904) (d : Nat) : ∀ (k i : Nat), i ≤ l.length → l.length - i = d → d < k →
    spec_l1All.l0 k lo hi l (l.length : Int) (i : Int) = some ((l.drop i).all fun x => inB lo hi x) := by
  induction d with
  | zero =>
    intro k i h1 hd hk
    obtain ⟨k, rfl⟩ : ∃ m, k = m + 1 := ⟨k - 1, by omega⟩
    simp only [spec_l1All.l0]
    rw [if_neg (by omega), List.drop_of_length_le (by omega)]
    rfl
  | succ d ih =>
    intro k i h1 hd hk
    obtain ⟨k, rfl⟩ : ∃ m, k = m + 1 := ⟨k - 1, by omega⟩
    have hin : i < l.length := by omega
    simp only [spec_l1All.l0, in_tells, Option.bind_some]
    rw [if_pos (by omega), if_pos (by omega), if_pos (by omega), w64 (by omega) (by omega), List.drop_eq_getElem_cons hin, List.all_cons, rd_at l i hin]
    cases inB lo hi l[i]
    · rfl
    · exact ih k (i + 1) (by omega) (by omega) (by omega)
theorem l1All_tells (lo hi : Int) (l : List Int) (hl : l.length < 4611686018427387904) : Tells (fun k => spec_l1All.f k l lo hi) (l.all fun x => inB lo hi x) :=
  ⟨l.length + 1, fun k hk => by simpa [spec_l1All.f] using l1All_l0 lo hi l hl l.length k 0 (by omega) (by omega) (by omega)⟩

end Go.Proofs.Ytoeddkfbhjmbmaa.PB
