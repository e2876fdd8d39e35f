/- Timed rings, as the program and the reference ask for them; no condition but a length below 2^62. -/
import Derived.Test.YtoeddkfbhjmbmaaPure0
import Derived.Test.YtoeddkfbhjmbmaaPA9
import Derived.Test.YtoeddkfbhjmbmaaPA4
import Derived.Test.YtoeddkfbhjmbmaaPA8
import Derived.Test.YtoeddkfbhjmbmaaPA2
namespace Go.Proofs.Ytoeddkfbhjmbmaa.PA
open Go.RowKit Go.Proofs.YtoeddkfbhjmbmaaW.PrintWords Go.Proofs.YtoeddkfbhjmbmaaW.PrintLast Go.Proofs.YtoeddkfbhjmbmaaW.PrintMore
theorem in_tells (x l h : Int) : spec_l1In.f x l h = some (inB l h x) := within_tells x l h
theorem l1All_l0 (lo hi : Int) (l : List Int) (hl : l.length < 4611686018427387904) (d : Nat) : ∀ (k i : Nat), i ≤ l.length → l.length - i = d → d < k →
    spec_l1All.l0 k lo hi l (l.length : Int) (i : Int) = some ((l.drop i).all fun x => inB lo hi x) := by
  induction d with
  | zero =>
    intro k i h1 hd hk
    obtain ⟨k, rfl⟩ : ∃ m, k = m + 1 := ⟨k - 1, by omega⟩
    simp only [spec_l1All.l0]
    rw [if_neg (by omega), List.drop_of_length_le (by omega)]
    rfl
  | succ d ih =>
    intro k i h1 hd hk
    obtain ⟨k, rfl⟩ : ∃ m, k = m + 1 := ⟨k - 1, by omega⟩
    have hin : i < l.length := by omega
    simp only [spec_l1All.l0, in_tells, Option.bind_some]
    rw [if_pos (by omega), if_pos (by omega), if_pos (by omega), w64 (by omega) (by omega), List.drop_eq_getElem_cons hin, List.all_cons, rd_at l i hin]
    cases inB lo hi l[i]
    · rfl
    · exact ih k (i + 1) (by omega) (by omega) (by omega)
theorem l1All_tells (lo hi : Int) (l : List Int) (hl : l.length < 4611686018427387904) : Tells (fun k => spec_l1All.f k l lo hi) (l.all fun x => inB lo hi x) :=
  ⟨l.length + 1, fun k hk => by simpa [spec_l1All.f] using l1All_l0 lo hi l hl l.length k 0 (by omega) (by omega) (by omega)⟩

/-- The sum, as int reckons it. -/
def sum64 (a : Int) : List Int → Int
  | [] => a
  | x :: l => sum64 (wrap64 (a + x)) l
theorem sumOf_l0 (l : List Int) (hl : l.length < 4611686018427387904) (d : Nat) : ∀ (k i : Nat) (a : Int), i ≤ l.length → l.length - i = d → d < k →
    impl_sumOf.l0 k a l (l.length : Int) (i : Int) = some (sum64 a (l.drop i)) := by
  induction d with
  | zero =>
    intro k i a h1 hd hk
    obtain ⟨k, rfl⟩ : ∃ m, k = m + 1 := ⟨k - 1, by omega⟩
    simp only [impl_sumOf.l0]
    rw [if_neg (by omega), List.drop_of_length_le (by omega)]
    rfl
  | succ d ih =>
    intro k i a h1 hd hk
    obtain ⟨k, rfl⟩ : ∃ m, k = m + 1 := ⟨k - 1, by omega⟩
    have hin : i < l.length := by omega
    simp only [impl_sumOf.l0]
    rw [if_pos (by omega), if_pos (by omega), if_pos (by omega), w64 (x := (i : Int) + 1) (by omega) (by omega), List.drop_eq_getElem_cons hin, rd_at l i hin]
    exact ih k (i + 1) _ (by omega) (by omega) (by omega)
theorem used_l0 (k : Nat) : ∀ (a : Int) (l : List Int) (n i : Int), spec_boUsed.l0 k a l n i = impl_sumOf.l0 k a l n i := by
  induction k with
  | zero => intros; rfl
  | succ k ih => intros; simp only [impl_sumOf.l0, spec_boUsed.l0, ih]
theorem wrap_add (a b : Int) : wrap64 (wrap64 a + b) = wrap64 (a + b) := by
  unfold wrap64
  omega
theorem sum64_shift (l : List Int) : ∀ (a b : Int), wrap64 (sum64 a l + b) = wrap64 (sum64 (wrap64 (a + b)) l) := by
  induction l with
  | nil => intro a b; simp only [sum64]; unfold wrap64; omega
  | cons x l ih =>
    intro a b
    simp only [sum64]
    rw [ih (wrap64 (a + x)) b]
    congr 2
    unfold wrap64
    omega
theorem wrap_wrap (a : Int) : wrap64 (wrap64 a) = wrap64 a := by
  unfold wrap64
  omega
theorem sum64_wrapped (l : List Int) : ∀ (a : Int), wrap64 a = a → wrap64 (sum64 a l) = sum64 a l := by
  induction l with
  | nil => intro a h; exact h
  | cons x l ih => intro a h; exact ih _ (wrap_wrap _)
/-- What a round takes at least. -/
def busyOf (walk : Int) (l : List Int) : Int := sum64 (wrap64 (walk * (l.length : Int))) l
theorem used_tells (t w : Int) (l : List Int) (hl : l.length < 4611686018427387904) : Tells (fun k => spec_boUsed.f k t w l) (busyOf w l) :=
  ⟨l.length + 1, fun k hk => by simpa [spec_boUsed.f, busyOf, used_l0] using sumOf_l0 l hl l.length k 0 (wrap64 (w * (l.length : Int))) (by omega) (by omega) (by omega)⟩
theorem busy_tells (t w : Int) (l : List Int) (hl : l.length < 4611686018427387904) : Tells (fun k => impl_TimedRing_busy.f k t w l) (busyOf w l) := by
  refine ⟨l.length + 1, fun k hk => ?_⟩
  have h := sumOf_l0 l hl l.length k 0 0 (by omega) (by omega) (by omega)
  simp only [Int.natCast_zero, List.drop_zero] at h
  simp only [impl_TimedRing_busy.f, impl_sumOf.f, h, Option.bind_some, busyOf]
  rw [sum64_shift, Int.zero_add, wrap_wrap, sum64_wrapped _ _ (wrap_wrap _)]
/-- Is there a timed ring? -/
def timedB (t w : Int) (l : List Int) : Bool := inB 1 12 (l.length : Int) && (inB 1 200 t && (inB 1 20 w && ((l.all fun x => inB 0 200 x) && decide (busyOf w l ≤ t))))
theorem specTimed_tells (t w : Int) (l : List Int) (hl : l.length < 4611686018427387904) : Tells (fun k => spec_boTimed.f k t w l) (timedB t w l) := by
  obtain ⟨K, hK⟩ := l1All_tells 0 200 l hl
  obtain ⟨L, hL⟩ := used_tells t w l hl
  refine ⟨K + L, fun k hk => ?_⟩
  simp only [spec_boTimed.f, in_tells, hK k (by omega), hL k (by omega), Option.bind_some, timedB]
  cases inB 1 12 (l.length : Int) <;> cases inB 1 200 t <;> cases inB 1 20 w <;> cases (l.all fun x => inB 0 200 x) <;> simp
theorem timed_tells (t w : Int) (l : List Int) (hl : l.length < 4611686018427387904) : Tells (fun k => impl_IsTimedRing.f k t w l) (timedB t w l) := by
  obtain ⟨L, hL⟩ := busy_tells t w l hl
  refine ⟨L, fun k hk => ?_⟩
  simp only [impl_IsTimedRing.f, within_tells, impl_allWithin.f, if_pos hl, hL k (by omega), Option.bind_some, timedB]
  cases inB 1 12 (l.length : Int) <;> cases inB 1 200 t <;> cases inB 1 20 w <;> cases (l.all fun x => inB 0 200 x) <;> simp
end Go.Proofs.Ytoeddkfbhjmbmaa.PA
