/- Are there a ring and messages: what both sides' checks come to; no condition but lengths. -/
import Derived.Test.YtkfghiofmamdnaaInPure
import Derived.Test.YtkfghiofmamdnaaWithin
import Derived.Test.YtkfghiofmamdnaaPA11
import Derived.Test.YtkfghiofmamdnaaPA4
import Derived.Test.YtkfghiofmamdnaaPA1
namespace Go.Proofs.Ytkfghiofmamdnaa.PA
open Go.RowKit Go.Proofs.YtkfghiofmamdnaaW.PrintWords Go.Proofs.YtkfghiofmamdnaaW.PrintLast Go.Proofs.YtkfghiofmamdnaaW.PrintMore
set_option linter.unusedVariables false
set_option linter.unusedSimpArgs false
namespace Ins
theorem w64 {x : Int} (h1 : -9223372036854775808 ≤ x) (h2 : x ≤ 9223372036854775807) : wrap64 x = x := by unfold wrap64; omega
theorem l1In_tells (x lo hi : Int) : spec_l1In.f x lo hi = some (inB lo hi x) := by
  unfold spec_l1In.f inB
  by_cases c : x ≥ lo
  · rw [if_pos c]
    congr 1
    simp [show lo ≤ x from c]
  · rw [if_neg c]
    simp [show ¬ lo ≤ x from c]
def okMsg (n : Int) (ms : List S60) (i : Nat) : Bool :=
  inB 0 100 (rd_T60 ms i).f0 && inB 0 (n - 1) (rd_T60 ms i).f1 && inB 0 (n - 1) (rd_T60 ms i).f2 && ((rd_T60 ms i).f1 != (rd_T60 ms i).f2) && !(decide (0 < i) && decide ((rd_T60 ms ((i : Int) - 1)).f0 > (rd_T60 ms i).f0))
def okMs (n : Int) (ms : List S60) : Bool := (List.range' 0 ms.length).all (okMsg n ms)
def okI (n room : Int) (ms : List S60) : Bool := inB 2 12 n && inB 1 20 room && okMs n ms && decide (ms.length ≤ 20)
theorem areM_l0 (n : Int) (ms : List S60) (hl : ms.length < 4611686018427387904) (hn : 2 ≤ n ∧ n ≤ 12) (d : Nat) : ∀ (k i : Nat), i ≤ ms.length → ms.length - i = d → d < k →
    impl_areMessages.l0 k n ms ms (ms.length : Int) (i : Int) = some ((List.range' i d).all (okMsg n ms) && decide (ms.length ≤ 20)) := by
  induction d with
  | zero =>
    intro k i h1 hd hk
    obtain ⟨k, rfl⟩ : ∃ m, k = m + 1 := ⟨k - 1, by omega⟩
    simp only [impl_areMessages.l0]
    rw [if_neg (by omega)]
    simp
    omega
  | succ d ih =>
    intro k i h1 hd hk
    obtain ⟨k, rfl⟩ : ∃ m, k = m + 1 := ⟨k - 1, by omega⟩
    have hin : i < ms.length := by omega
    have ih' := ih k (i + 1) (by omega) (by omega) (by omega)
    simp only [impl_areMessages.l0, within_tells, impl_allWithin.f, List.length_cons, List.length_nil, Option.bind_some, List.all_cons, List.all_nil, Bool.and_true]
    simp only [show (0 + 1 + 1 < 4611686018427387904) = True from eq_true (by omega), if_true, Option.bind_some]
    rw [if_pos (by omega), if_pos (by omega), if_pos (by omega), w64 (x := n - 1) (by omega) (by omega), w64 (x := (i : Int) + 1) (by omega) (by omega), w64 (x := (i : Int) - 1) (by omega) (by omega), show ((i : Int) + 1) = ((i + 1 : Nat) : Int) by omega, ih']
    rw [show List.range' i (d + 1) = i :: List.range' (i + 1) d from rfl, List.all_cons]
    generalize (List.range' (i + 1) d).all (okMsg n ms) = R
    simp only [okMsg, Option.bind_some]
    cases inB 0 100 (rd_T60 ms i).f0 <;> cases inB 0 (n - 1) (rd_T60 ms i).f1 <;> cases inB 0 (n - 1) (rd_T60 ms i).f2 <;> simp
    by_cases h : (rd_T60 ms i).f1 = (rd_T60 ms i).f2
    · simp [h]
    · have hb : ((rd_T60 ms (i : Int)).f1 != (rd_T60 ms (i : Int)).f2) = true := bne_iff_ne.mpr h
      by_cases h0 : 0 < i
      · by_cases hp : (rd_T60 ms i).f0 < (rd_T60 ms ((i : Int) - 1)).f0
        · rw [if_neg h, if_pos (by omega), if_pos (by omega), if_pos (by omega), if_pos hp]
          simp [h, h0, hp, hb]
        · rw [if_neg h, if_pos (by omega), if_pos (by omega), if_pos (by omega), if_neg hp]
          simp [h, h0, hp, hb]
      · simp [h, h0, hb]
theorem isInserted_tells (n room : Int) (ow : Bool) (ms : List S60) (hl : ms.length < 4611686018427387904) : impl_isInserted.f (ms.length + 1) n room ow ms = some (okI n room ms) := by
  simp only [impl_isInserted.f, impl_IsInsertRing.f, impl_isRingSize.f, within_tells, Option.bind_some, okI]
  by_cases hn : inB 2 12 n = true
  · rw [if_pos hn]
    by_cases hr : inB 1 20 room = true
    · simp only [Option.bind_some, if_pos hr]
      simp only [impl_areMessages.f]
      have := areM_l0 n ms hl (by simpa [inB] using hn) ms.length (ms.length + 1) 0 (by omega) (by omega) (by omega)
      rw [show ((0 : Nat) : Int) = 0 from rfl] at this
      rw [this]
      simp [hn, hr, okMs]
    · simp only [Option.bind_some, if_neg hr]
      simp [hr]
  · rw [if_neg hn]
    simp [hn]
theorem slA_l0 (n : Int) (ms : List S60) (hl : ms.length < 4611686018427387904) (hn : 2 ≤ n ∧ n ≤ 12) (fr : Bool) (d : Nat) : ∀ (k i : Nat), i ≤ ms.length → ms.length - i = d → d < k →
    spec_slAll.l0 k ms ms (ms.length : Int) (i : Int) n fr = some ((List.range' i d).all (okMsg n ms)) := by
  induction d with
  | zero =>
    intro k i h1 hd hk
    obtain ⟨k, rfl⟩ : ∃ m, k = m + 1 := ⟨k - 1, by omega⟩
    simp only [spec_slAll.l0]
    rw [if_neg (by omega)]
    simp
  | succ d ih =>
    intro k i h1 hd hk
    obtain ⟨k, rfl⟩ : ∃ m, k = m + 1 := ⟨k - 1, by omega⟩
    have hin : i < ms.length := by omega
    have ih' := ih k (i + 1) (by omega) (by omega) (by omega)
    simp only [spec_slAll.l0, spec_slMessage.f, l1In_tells, Option.bind_some]
    rw [if_pos (by omega), if_pos (by omega), if_pos (by omega), w64 (x := n - 1) (by omega) (by omega), w64 (x := (i : Int) + 1) (by omega) (by omega), w64 (x := (i : Int) - 1) (by omega) (by omega), show ((i : Int) + 1) = ((i + 1 : Nat) : Int) by omega, ih']
    rw [show List.range' i (d + 1) = i :: List.range' (i + 1) d from rfl, List.all_cons]
    generalize (List.range' (i + 1) d).all (okMsg n ms) = R
    simp only [okMsg, Option.bind_some]
    cases inB 0 100 (rd_T60 ms i).f0 <;> cases inB 0 (n - 1) (rd_T60 ms i).f1 <;> cases inB 0 (n - 1) (rd_T60 ms i).f2 <;> simp
    by_cases h : (rd_T60 ms i).f1 = (rd_T60 ms i).f2
    · simp [h]
    · have hb : ((rd_T60 ms (i : Int)).f1 != (rd_T60 ms (i : Int)).f2) = true := bne_iff_ne.mpr h
      by_cases h0 : 0 < i
      · by_cases hp : (rd_T60 ms i).f0 < (rd_T60 ms ((i : Int) - 1)).f0
        · simp [h, h0, hp, hb]
          try omega
        · simp [h, h0, hp, hb]
          try omega
      · simp [h, h0, hb]
theorem slAll_tells (n : Int) (fr : Bool) (ms : List S60) (hl : ms.length < 4611686018427387904) : spec_slAll.f (ms.length + 3) n fr ms = some (inB 2 12 n && okMs n ms && decide (ms.length ≤ 20)) := by
  simp only [spec_slAll.f, spec_slGood.f, l1In_tells, Option.bind_some]
  by_cases hn : inB 2 12 n = true
  · rw [if_pos hn, hn]
    simp only [spec_slAll.j0]
    by_cases h : (ms.length : Int) > 20
    · rw [if_pos (by simpa using h)]
      simp [show ¬ ms.length ≤ 20 by omega]
    · rw [if_neg (by simpa using h)]
      have := slA_l0 n ms hl (by simpa [inB] using hn) fr ms.length (ms.length + 2) 0 (by omega) (by omega) (by omega)
      rw [show ((0 : Nat) : Int) = 0 from rfl] at this
      rw [this]
      simp [show ms.length ≤ 20 by omega, okMs]
  · rw [if_neg hn]
    simp [spec_slAll.j0, hn]
theorem inAll_tells (n room : Int) (ow : Bool) (ms : List S60) (hl : ms.length < 4611686018427387904) : spec_inAll.f (ms.length + 3) n room ow ms = some (okI n room ms) := by
  simp only [spec_inAll.f, spec_inGood.f, l1In_tells, Option.bind_some, slAll_tells n false ms hl, okI]
  cases inB 2 12 n <;> cases inB 1 20 room <;> cases okMs n ms <;> simp
theorem tick_tells (t : Int) : impl_isInsertTick.f t = some (inB 0 600 t) ∧ spec_inTick.f t = some (inB 0 600 t) := by
  simp only [impl_isInsertTick.f, spec_inTick.f, within_tells, l1In_tells, Option.bind_some, and_self]
theorem okI_facts {n room : Int} {ms : List S60} (h : okI n room ms = true) : (2 ≤ n ∧ n ≤ 12) ∧ (1 ≤ room ∧ room ≤ 20) ∧ ms.length ≤ 20 ∧ ∀ i, i < ms.length → okMsg n ms i = true := by
  simp only [okI, inB, Bool.and_eq_true, decide_eq_true_eq, okMs, List.all_eq_true, List.mem_range'_1] at h
  exact ⟨h.1.1.1, h.1.1.2, h.2, fun i hi => h.1.2 i ⟨by omega, by omega⟩⟩
end Ins
end Go.Proofs.Ytkfghiofmamdnaa.PA
