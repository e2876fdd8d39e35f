/- Rings, frames and their lists, as the program and the reference ask for them; no condition but a length below 2^62. -/
import Derived.Test.YtnemmfeonliolaaPure0
import Derived.Test.YtnemmfeonliolaaPA23
import Derived.Test.YtnemmfeonliolaaPA15
import Derived.Test.YtnemmfeonliolaaPA14
import Derived.Test.YtnemmfeonliolaaPA22
namespace Go.Proofs.Ytnemmfeonliolaa.PA
open Go.RowKit Go.Proofs.YtnemmfeonliolaaW.PrintWords Go.Proofs.YtnemmfeonliolaaW.PrintLast Go.Proofs.YtnemmfeonliolaaW.PrintMore
theorem l1In_tells (x l h : Int) : spec_l1In.f x l h = some (inB l h x) := within_tells x l h
/-- From place i on, each of d is above the one before it. -/
def riseFrom (l : List Int) : Nat → Nat → Bool
  | _, 0 => true
  | i, d + 1 => (decide (i = 0) || decide (l.getD (i - 1) 0 < l.getD i 0)) && riseFrom l (i + 1) d
theorem areRising_l0 (lo hi : Int) (l : List Int) (hl : l.length < 4611686018427387904) (d : Nat) : ∀ (k i : Nat), i ≤ l.length → l.length - i = d → d < k →
    impl_areRising.l0 k l lo hi l (l.length : Int) (i : Int) = some (riseFrom l i d && l.all fun x => inB lo hi x) := by
  induction d with
  | zero =>
    intro k i h1 hd hk
    obtain ⟨k, rfl⟩ : ∃ m, k = m + 1 := ⟨k - 1, by omega⟩
    simp only [impl_areRising.l0, impl_allWithin.f, if_pos hl, Option.bind_some, riseFrom, Bool.true_and]
    rw [if_neg (by omega)]
  | succ d ih =>
    intro k i h1 hd hk
    obtain ⟨k, rfl⟩ : ∃ m, k = m + 1 := ⟨k - 1, by omega⟩
    simp only [impl_areRising.l0, riseFrom]
    rw [if_pos (by omega), if_pos (by omega), if_pos (by omega), w64 (x := (i : Int) + 1) (by omega) (by omega)]
    have hn := ih k (i + 1) (by omega) (by omega) (by omega)
    by_cases h0 : i = 0
    · subst h0
      rw [if_neg (by omega)]
      simpa using hn
    · rw [if_pos (by omega), w64 (x := (i : Int) - 1) (by omega) (by omega), if_pos (by omega), if_pos (by omega), show ((i : Int) - 1) = ((i - 1 : Nat) : Int) by omega, rd_nat, rd_nat]
      by_cases hc : l.getD (i - 1) 0 ≥ l.getD i 0
      · rw [if_pos hc, decide_eq_false h0, decide_eq_false (by omega)]
        rfl
      · rw [if_neg hc, decide_eq_true (show l.getD (i - 1) 0 < l.getD i 0 by omega), Bool.or_true, Bool.true_and]
        exact hn
theorem l1Rising_l0 (lo hi : Int) (l : List Int) (hl : l.length < 4611686018427387904) (d : Nat) : ∀ (k i : Nat), i ≤ l.length → l.length - i = d → d < k →
    spec_l1Rising.l0 k l lo hi l (l.length : Int) (i : Int) = some (riseFrom l i d && (l.drop i).all fun x => inB lo hi x) := by
  induction d with
  | zero =>
    intro k i h1 hd hk
    obtain ⟨k, rfl⟩ : ∃ m, k = m + 1 := ⟨k - 1, by omega⟩
    simp only [spec_l1Rising.l0, riseFrom]
    rw [if_neg (by omega), List.drop_of_length_le (by omega)]
    rfl
  | succ d ih =>
    intro k i h1 hd hk
    obtain ⟨k, rfl⟩ : ∃ m, k = m + 1 := ⟨k - 1, by omega⟩
    have hin : i < l.length := by omega
    simp only [spec_l1Rising.l0, riseFrom, l1In_tells, Option.bind_some]
    rw [if_pos (by omega), if_pos (by omega), if_pos (by omega), w64 (x := (i : Int) + 1) (by omega) (by omega), List.drop_eq_getElem_cons hin, List.all_cons]
    have hn := ih k (i + 1) (by omega) (by omega) (by omega)
    have hg : rd l (i : Int) = l[i] := rd_at l i hin
    by_cases hb : inB lo hi (rd l (i : Int)) = true
    · rw [if_pos hb, ← hg, hb, Bool.true_and]
      by_cases h0 : i = 0
      · subst h0
        rw [if_neg (by omega)]
        simpa using hn
      · rw [if_pos (by omega), w64 (x := (i : Int) - 1) (by omega) (by omega), if_pos (by omega), if_pos (by omega), show ((i : Int) - 1) = ((i - 1 : Nat) : Int) by omega, rd_nat, rd_nat]
        by_cases hc : l.getD (i - 1) 0 ≥ l.getD i 0
        · rw [if_pos hc, decide_eq_false h0, decide_eq_false (by omega)]
          rfl
        · rw [if_neg hc, decide_eq_true (show l.getD (i - 1) 0 < l.getD i 0 by omega), Bool.or_true, Bool.true_and]
          exact hn
    · rw [if_neg hb, ← hg, Bool.eq_false_iff.2 hb, Bool.false_and, Bool.and_false]
/-- Rising, and all within. -/
def riseB (lo hi : Int) (l : List Int) : Bool := riseFrom l 0 l.length && l.all fun x => inB lo hi x
theorem areRising_tells (lo hi : Int) (l : List Int) (hl : l.length < 4611686018427387904) : Tells (fun k => impl_areRising.f k l lo hi) (riseB lo hi l) :=
  ⟨l.length + 1, fun k hk => by simpa [impl_areRising.f, riseB] using areRising_l0 lo hi l hl l.length k 0 (by omega) (by omega) (by omega)⟩
theorem l1Rising_tells (lo hi : Int) (l : List Int) (hl : l.length < 4611686018427387904) : Tells (fun k => spec_l1Rising.f k l lo hi) (riseB lo hi l) :=
  ⟨l.length + 1, fun k hk => by simpa [spec_l1Rising.f, riseB] using l1Rising_l0 lo hi l hl l.length k 0 (by omega) (by omega) (by omega)⟩
/-- Is there a ring? -/
def ringB (n : Int) (l : List Int) : Bool := inB 2 12 n && riseB 0 (wrap64 (n - 1)) l
theorem isRing_tells (n : Int) (l : List Int) (hl : l.length < 4611686018427387904) : Tells (fun k => impl_IsRing.f k n l) (ringB n l) := by
  obtain ⟨K, hK⟩ := areRising_tells 0 (wrap64 (n - 1)) l hl
  refine ⟨K, fun k hk => ?_⟩
  simp only [impl_IsRing.f, impl_isRingSize.f, within_tells, hK k hk, Option.bind_some, ringB]
  cases inB 2 12 n <;> simp
theorem riGood_tells (n : Int) (l : List Int) (hl : l.length < 4611686018427387904) : Tells (fun k => spec_riGood.f k n l) (ringB n l) := by
  obtain ⟨K, hK⟩ := l1Rising_tells 0 (wrap64 (n - 1)) l hl
  refine ⟨K, fun k hk => ?_⟩
  simp only [spec_riGood.f, l1In_tells, hK k hk, Option.bind_some, ringB]
  cases inB 2 12 n <;> simp
end Go.Proofs.Ytnemmfeonliolaa.PA
