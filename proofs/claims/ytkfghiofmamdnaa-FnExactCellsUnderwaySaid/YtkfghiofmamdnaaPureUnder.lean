/- The law on CellsUnderway comes to true; no condition but that the list is no longer than memory lets it be. -/
import Derived.Test.YtkfghiofmamdnaaPureMsg
import Derived.Test.YtkfghiofmamdnaaPA20
namespace Go.Proofs.Ytkfghiofmamdnaa.PA
open Go.RowKit Go.Proofs.YtkfghiofmamdnaaW.PrintWords Go.Proofs.YtkfghiofmamdnaaW.PrintLast Go.Proofs.YtkfghiofmamdnaaW.PrintMore
theorem cellsUnderway_pure (n room : Int) (ow : Bool) (l : List S70) (t : Int) (hl : l.length ≤ 5864062014805) : ∃ k, laws_FnExactCellsUnderway.f k n room ow l t = some true := by
  obtain ⟨K1, h1⟩ := toMessageS_tells l hl
  obtain ⟨K2, h2⟩ := eqMessageS_tells (l.map convM) (by simp; omega)
  refine ⟨K1 + K2 + 1, ?_⟩
  have e1 := h1 (K1 + K2) (by omega)
  have e1' := h1 (K1 + K2 + 1) (by omega)
  have e2 := h2 (K1 + K2) (by omega)
  simp only at e1 e1' e2
  have hz : ∃ z, laws_szMessageS.f l 1048576 = some z := by
    simp only [laws_szMessageS.f]
    split <;> exact ⟨_, rfl⟩
  obtain ⟨z, hz⟩ := hz
  have hs : spec_CellsUnderway.f n room ow (l.map convM) t = some (cellsUnderwayR n room ow (l.map convM) t) := if_pos (by simp; omega)
  have hi : impl_CellsUnderway.f n room ow (l.map convM) t = some (cellsUnderwayR n room ow (l.map convM) t) := if_pos (by simp; omega)
  simp only [laws_FnExactCellsUnderway.f, hz, Option.bind_some]
  by_cases hz0 : z < 0
  · rw [if_pos hz0]
  · rw [if_neg hz0]
    simp only [laws_toInsertRing.f, Option.bind_some, e1', hs, hi, if_true, bne_self_eq_false, laws_FnExactCellsUnderway.j0, Bool.false_eq_true, if_false, e1, e2]
theorem core_FnExactCellsUnderway (n room : Int) (ow : Bool) (A : Option Addr) (c : Nat) (l : List S70) (t : Int) (W : World) (_ : True) (h : Kd.C k70 W A l.length l ∧ l.length ≤ c ∧ l.length ≤ 5864062014805) (_ : (Lit.int .i64 t).wf = true) :
    Calls Try.prog 5 #[.agg #[.int .i64 n, .int .i64 room, .bool ow], .slice A l.length c, .int .i64 t] W fun e W' => e = .returned (.bool true) ∧ Below W.heap.size W W' := by
  obtain ⟨k, hk⟩ := cellsUnderway_pure n room ow l t h.2.2
  exact laws_FnExactCellsUnderway.calls k n room ow A c l t W h.1 h.2.1 hk
end Go.Proofs.Ytkfghiofmamdnaa.PA
