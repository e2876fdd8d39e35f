/- The law on TurnInserted comes to true; no condition but that the list is no longer than memory lets it be. -/
import Derived.Test.YtkfghiofmamdnaaPureMK
import Derived.Test.YtkfghiofmamdnaaPA37
namespace Go.Proofs.Ytkfghiofmamdnaa.PA
open Go.RowKit Go.Proofs.YtkfghiofmamdnaaW.PrintWords Go.Proofs.YtkfghiofmamdnaaW.PrintLast Go.Proofs.YtkfghiofmamdnaaW.PrintMore
theorem turnInsertedR_len (n room : Int) (ow : Bool) (ms : List S60) (t : Int) : (turnInsertedR n room ow ms t).1.length ≤ 100 := by
  unfold turnInsertedR
  split
  · rename_i h
    simp only [Bool.and_eq_true] at h
    have hf := Ins.okI_facts h.1
    have hg : Ins.Good n.toNat room ms := Ins.good_of (by rw [show ((n.toNat : Nat) : Int) = n by omega]; exact h.1)
    have := (Ins.end_sizes hg ow).1
    simp only
    omega
  · simp
theorem turnInserted_pure (n room : Int) (ow : Bool) (l : List S70) (t : Int) (hl : l.length ≤ 5864062014805) : ∃ k, laws_FnExactTurnInserted.f k n room ow l t = some true := by
  by_cases hbig : l.length ≤ 1048576
  · obtain ⟨K1, h1⟩ := toMessageS_tells l hl
    obtain ⟨K2, h2⟩ := eqMessageS_tells (l.map convM) (by simp; omega)
    have hs : spec_TurnInserted.f n room ow (l.map convM) t = some (turnInsertedR n room ow (l.map convM) t) := if_pos (by simp; omega)
    have hi : impl_TurnInserted.f n room ow (l.map convM) t = some (turnInsertedR n room ow (l.map convM) t) := if_pos (by simp; omega)
    have hR := turnInsertedR_len n room ow (l.map convM) t
    generalize turnInsertedR n room ow (l.map convM) t = R at hs hi hR
    obtain ⟨R1, R2⟩ := R
    simp only at hR
    generalize hK : K1 + K2 + l.length + 200 = K
    refine ⟨K + 3, ?_⟩
    have a : ∀ k, K ≤ k → laws_toMessageS.f k l = some (l.map convM) := fun k hk => h1 k (by omega)
    have b : ∀ k, K ≤ k → laws_eqMessageS.f k (l.map convM) (l.map convM) = some true := fun k hk => h2 k (by omega)
    have c : ∀ k, K ≤ k → laws_eqIntS.f k R1 R1 = some true := fun k hk => eqIntS_self R1 (by omega) (by omega)
    have d : ∀ k, K ≤ k → laws_markIntS.f k R1 1 = some (1 + (R1.length : Int), marked 1 R1.length) := fun k hk => markIntS_tells R1 (by omega) (by omega)
    have e : ∀ k, K ≤ k → laws_heldIntS.f k (marked 1 R1.length) 1 = some (1 + (R1.length : Int)) := fun k hk => heldIntS_tells R1.length (by omega) (by omega)
    obtain ⟨r, hr, hr0⟩ := markMessageS_tells (l.map convM) (by simp; omega) (k := K + 2) (by simp; omega)
    have hz : laws_szMessageS.f l 1048576 = some (1048576 - (l.length : Int)) := by
      simp only [laws_szMessageS.f]
      rw [w64 (by omega) (by omega), if_neg (by omega)]
    simp only [laws_FnExactTurnInserted.f, hz, Option.bind_some]
    rw [if_neg (by omega)]
    simp only [laws_toInsertRing.f, Option.bind_some, a (K + 3) (by omega), a (K + 2) (by omega), a (K + 1) (by omega), b (K + 2) (by omega), c (K + 3) (by omega), c (K + 2) (by omega), c (K + 1) (by omega), d (K + 1) (by omega), e (K + 1) (by omega), e K (by omega), hs, hi, hr, if_true, bne_self_eq_false, laws_FnExactTurnInserted.j0, laws_FnExactTurnInserted.j1, laws_FnExactTurnInserted.j2, Bool.false_eq_true, if_false, if_neg (show ¬ r.1 < 0 by omega), if_neg (show ¬ 1 + (R1.length : Int) < 0 by omega)]
  · refine ⟨0, ?_⟩
    have hz : laws_szMessageS.f l 1048576 = some (-1) := by
      simp only [laws_szMessageS.f]
      rw [w64 (by omega) (by omega), if_pos (by omega)]
    simp only [laws_FnExactTurnInserted.f, hz, Option.bind_some]
    rw [if_pos (by omega)]
theorem core_FnExactTurnInserted (n room : Int) (ow : Bool) (A : Option Addr) (c : Nat) (l : List S70) (t : Int) (W : World) (_ : True) (h : Kd.C k70 W A l.length l ∧ l.length ≤ c ∧ l.length ≤ 5864062014805) (_ : (Lit.int .i64 t).wf = true) :
    Calls Try.prog 13 #[.agg #[.int .i64 n, .int .i64 room, .bool ow], .slice A l.length c, .int .i64 t] W fun e W' => e = .returned (.bool true) ∧ Below W.heap.size W W' := by
  obtain ⟨k, hk⟩ := turnInserted_pure n room ow l t h.2.2
  exact laws_FnExactTurnInserted.calls k n room ow A c l t W h.1 h.2.1 hk
end Go.Proofs.Ytkfghiofmamdnaa.PA
