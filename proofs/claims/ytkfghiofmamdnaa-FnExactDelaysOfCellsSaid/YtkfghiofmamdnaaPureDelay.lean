/- The law on DelaysOfCells comes to true; no condition but that the list is no longer than memory lets it be. -/
import Derived.Test.YtkfghiofmamdnaaPureMK
import Derived.Test.YtkfghiofmamdnaaPA34
namespace Go.Proofs.Ytkfghiofmamdnaa.PA
open Go.RowKit Go.Proofs.YtkfghiofmamdnaaW.PrintWords Go.Proofs.YtkfghiofmamdnaaW.PrintLast Go.Proofs.YtkfghiofmamdnaaW.PrintMore
theorem delaysOfCellsR_len (n room : Int) (ow : Bool) (ms : List S60) : (delaysOfCellsR n room ow ms).1.length ≤ 100 := by
  unfold delaysOfCellsR
  split
  · rename_i h
    have hf := Ins.okI_facts h
    simp only [Ins.delTo_len]
    omega
  · simp
theorem delaysOfCellsR_pure (n room : Int) (ow : Bool) (l : List S70) (hl : l.length ≤ 5864062014805) : ∃ k, laws_FnExactDelaysOfCells.f k n room ow l = some true := by
  by_cases hbig : l.length ≤ 1048576
  · obtain ⟨K1, h1⟩ := toMessageS_tells l hl
    obtain ⟨K2, h2⟩ := eqMessageS_tells (l.map convM) (by simp; omega)
    have hs : spec_DelaysOfCells.f n room ow (l.map convM) = some (delaysOfCellsR n room ow (l.map convM)) := if_pos (by simp; omega)
    have hi : impl_DelaysOfCells.f n room ow (l.map convM) = some (delaysOfCellsR n room ow (l.map convM)) := if_pos (by simp; omega)
    have hR := delaysOfCellsR_len n room ow (l.map convM)
    generalize delaysOfCellsR n room ow (l.map convM) = R at hs hi hR
    obtain ⟨R1, R2⟩ := R
    simp only at hR
    generalize hK : K1 + K2 + l.length + 200 = K
    refine ⟨K + 3, ?_⟩
    have a : ∀ k, K ≤ k → laws_toMessageS.f k l = some (l.map convM) := fun k hk => h1 k (by omega)
    have b : ∀ k, K ≤ k → laws_eqMessageS.f k (l.map convM) (l.map convM) = some true := fun k hk => h2 k (by omega)
    have c : ∀ k, K ≤ k → laws_eqIntS.f k R1 R1 = some true := fun k hk => eqIntS_self R1 (by omega) (by omega)
    have d : ∀ k, K ≤ k → laws_markIntS.f k R1 1 = some (1 + (R1.length : Int), marked 1 R1.length) := fun k hk => markIntS_tells R1 (by omega) (by omega)
    have e : ∀ k, K ≤ k → laws_heldIntS.f k (marked 1 R1.length) 1 = some (1 + (R1.length : Int)) := fun k hk => heldIntS_tells R1.length (by omega) (by omega)
    obtain ⟨r, hr, hr0⟩ := markMessageS_tells (l.map convM) (by simp; omega) (k := K + 2) (by simp; omega)
    have hz : laws_szMessageS.f l 1048576 = some (1048576 - (l.length : Int)) := by
      simp only [laws_szMessageS.f]
      rw [w64 (by omega) (by omega), if_neg (by omega)]
    simp only [laws_FnExactDelaysOfCells.f, hz, Option.bind_some]
    rw [if_neg (by omega)]
    simp only [laws_toInsertRing.f, Option.bind_some, a (K + 3) (by omega), a (K + 2) (by omega), a (K + 1) (by omega), b (K + 2) (by omega), c (K + 3) (by omega), c (K + 2) (by omega), c (K + 1) (by omega), d (K + 1) (by omega), e (K + 1) (by omega), e K (by omega), hs, hi, hr, if_true, bne_self_eq_false, laws_FnExactDelaysOfCells.j0, laws_FnExactDelaysOfCells.j1, laws_FnExactDelaysOfCells.j2, Bool.false_eq_true, if_false, if_neg (show ¬ r.1 < 0 by omega), if_neg (show ¬ 1 + (R1.length : Int) < 0 by omega)]
  · refine ⟨0, ?_⟩
    have hz : laws_szMessageS.f l 1048576 = some (-1) := by
      simp only [laws_szMessageS.f]
      rw [w64 (by omega) (by omega), if_pos (by omega)]
    simp only [laws_FnExactDelaysOfCells.f, hz, Option.bind_some]
    rw [if_pos (by omega)]
theorem core_FnExactDelaysOfCells (n room : Int) (ow : Bool) (A : Option Addr) (c : Nat) (l : List S70) (W : World) (_ : True) (h : Kd.C k70 W A l.length l ∧ l.length ≤ c ∧ l.length ≤ 5864062014805) :
    Calls Try.prog 11 #[.agg #[.int .i64 n, .int .i64 room, .bool ow], .slice A l.length c] W fun e W' => e = .returned (.bool true) ∧ Below W.heap.size W W' := by
  obtain ⟨k, hk⟩ := delaysOfCellsR_pure n room ow l h.2.2
  exact laws_FnExactDelaysOfCells.calls k n room ow A c l W h.1 h.2.1 hk
end Go.Proofs.Ytkfghiofmamdnaa.PA
