/- The law on LongestInsertWait comes to true; no condition but that the list is no longer than memory lets it be. -/
import Derived.Test.YtkfghiofmamdnaaPureMsg
import Derived.Test.YtkfghiofmamdnaaPA22
import Derived.Test.YtkfghiofmamdnaaExDoneB
import Derived.Test.YtkfghiofmamdnaaPA21
namespace Go.Proofs.Ytkfghiofmamdnaa.PA
open Go.RowKit Go.Proofs.YtkfghiofmamdnaaW.PrintWords Go.Proofs.YtkfghiofmamdnaaW.PrintLast Go.Proofs.YtkfghiofmamdnaaW.PrintMore
theorem wrap_small2 (j : Nat) (h : j ≤ 100) : wrap64 ((j : Int) + 1) = ((j + 1 : Nat) : Int) := by unfold wrap64; omega
theorem longest_from (ms : List S60) (b : Bool) (l : List Int) (hl : l.length ≤ 100) (hm : l.length = ms.length) : ∀ d j k : Nat, j + d = l.length → d < k → impl_LongestInsertWait.l0 k ms b (Ins.longTo l ms j) l (l.length : Int) (j : Int) = some (Ins.longTo l ms l.length, b)
  | 0, j, k, hj, hk => by
    obtain ⟨k, rfl⟩ : ∃ k', k = k' + 1 := ⟨k - 1, by omega⟩
    rw [impl_LongestInsertWait.l0, if_neg (by omega), show j = l.length by omega]
  | d + 1, j, k, hj, hk => by
    obtain ⟨k, rfl⟩ : ∃ k', k = k' + 1 := ⟨k - 1, by omega⟩
    rw [impl_LongestInsertWait.l0, if_pos (by omega), if_pos (by omega), if_pos (by omega), if_pos (by omega), wrap_small2 j (by omega)]
    exact longest_from ms b l hl hm d (j + 1) k (by omega) (by omega)
theorem longestInsertWait_impl (n room : Int) (ow : Bool) (ms : List S60) (hM : ms.length < 4611686018427387904) (k : Nat) (hk : 100 < k) : impl_LongestInsertWait.f k n room ow ms = some (longestInsertWaitR n room ow ms) := by
  have e : impl_InsertedAt.f n room ow ms = some (insertedAtR n room ow ms) := if_pos hM
  simp only [impl_LongestInsertWait.f, e, Option.bind_some, insertedAtR, longestInsertWaitR]
  by_cases h : Ins.okI n room ms = true
  · have hf := Ins.okI_facts h
    have hg : Ins.Good n.toNat room ms := Ins.good_of (by rw [show ((n.toNat : Nat) : Int) = n by omega]; exact h)
    have hs := Ins.end_sizes hg ow
    rw [if_pos h, if_pos h]
    have := longest_from ms true (Ins.stAt n.toNat room ow ms (Ins.doneN n.toNat room ow ms)).ins (by omega) (by omega) _ 0 k (Nat.zero_add _) (by omega)
    rw [Ins.longTo, show ((0 : Nat) : Int) = 0 from rfl] at this
    simp only
    rw [this, hs.1]
  · rw [if_neg h, if_neg h]
    obtain ⟨k, rfl⟩ : ∃ k', k = k' + 1 := ⟨k - 1, by omega⟩
    rw [impl_LongestInsertWait.l0, if_neg (by simp)]
theorem longestInsertWait_pure (n room : Int) (ow : Bool) (l : List S70) (hl : l.length ≤ 5864062014805) : ∃ k, laws_FnExactLongestInsertWait.f k n room ow l = some true := by
  obtain ⟨K1, h1⟩ := toMessageS_tells l hl
  obtain ⟨K2, h2⟩ := eqMessageS_tells (l.map convM) (by simp; omega)
  refine ⟨K1 + K2 + 101, ?_⟩
  have e1 := h1 (K1 + K2 + 100) (by omega)
  have e1' := h1 (K1 + K2 + 101) (by omega)
  have e2 := h2 (K1 + K2 + 100) (by omega)
  simp only at e1 e1' e2
  have hz : ∃ z, laws_szMessageS.f l 1048576 = some z := by
    simp only [laws_szMessageS.f]
    split <;> exact ⟨_, rfl⟩
  obtain ⟨z, hz⟩ := hz
  have hs : spec_LongestInsertWait.f n room ow (l.map convM) = some (longestInsertWaitR n room ow (l.map convM)) := if_pos (by simp; omega)
  have hi : impl_LongestInsertWait.f (K1 + K2 + 101) n room ow (l.map convM) = some (longestInsertWaitR n room ow (l.map convM)) := longestInsertWait_impl n room ow (l.map convM) (by simp; omega) _ (by omega)
  simp only [laws_FnExactLongestInsertWait.f, hz, Option.bind_some]
  by_cases hz0 : z < 0
  · rw [if_pos hz0]
  · rw [if_neg hz0]
    simp only [laws_toInsertRing.f, Option.bind_some, e1', hs, hi, if_true, bne_self_eq_false, laws_FnExactLongestInsertWait.j0, Bool.false_eq_true, if_false, e1, e2]
theorem core_FnExactLongestInsertWait (n room : Int) (ow : Bool) (A : Option Addr) (c : Nat) (l : List S70) (W : World) (_ : True) (h : Kd.C k70 W A l.length l ∧ l.length ≤ c ∧ l.length ≤ 5864062014805) :
    Calls Try.prog 6 #[.agg #[.int .i64 n, .int .i64 room, .bool ow], .slice A l.length c] W fun e W' => e = .returned (.bool true) ∧ Below W.heap.size W W' := by
  obtain ⟨k, hk⟩ := longestInsertWait_pure n room ow l h.2.2
  exact laws_FnExactLongestInsertWait.calls k n room ow A c l W h.1 h.2.1 hk
end Go.Proofs.Ytkfghiofmamdnaa.PA
