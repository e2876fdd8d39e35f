/- The law on IsTimedRing comes to true; no condition but that the list is no longer than memory lets it be. -/
import Derived.Below
import Derived.Test.YtidoghpbeilipaaPure0
import Derived.Test.YtidoghpbeilipaaPureEq
import Derived.Test.YtidoghpbeilipaaPureTo
import Derived.Test.YtidoghpbeilipaaPB3
namespace Go.Proofs.Ytidoghpbeilipaa.PB
open Go.RowKit Go.Proofs.YtidoghpbeilipaaW.PrintWords Go.Proofs.YtidoghpbeilipaaW.PrintLast Go.Proofs.YtidoghpbeilipaaW.PrintMore

theorem in_tells (x l h : Int) : spec_l1In.f x l h = some (inB l h x) := within_tells x l h
theorem l1All_l0 (lo hi : Int) (l : List Int) (hl : l.length < 4611686018427387904) (d : Nat) : ∀ (k i : Nat), i ≤ l.length → l.length - i = d → d < k →
    spec_l1All.l0 k lo hi l (l.length : Int) (i : Int) = some ((l.drop i).all fun x => inB lo hi x) := by
  induction d with
  | zero =>
    intro k i h1 hd hk
    obtain ⟨k, rfl⟩ : ∃ m, k = m + 1 := ⟨k - 1, by omega⟩
    simp only [spec_l1All.l0]
    rw [if_neg (by omega), List.drop_of_length_le (by omega)]
    rfl
  | succ d ih =>
    intro k i h1 hd hk
    obtain ⟨k, rfl⟩ : ∃ m, k = m + 1 := ⟨k - 1, by omega⟩
    have hin : i < l.length := by omega
    simp only [spec_l1All.l0, in_tells, Option.bind_some]
    rw [if_pos (by omega), if_pos (by omega), if_pos (by omega), w64 (by omega) (by omega), List.drop_eq_getElem_cons hin, List.all_cons, rd_at l i hin]
    cases inB lo hi l[i]
    · rfl
    · exact ih k (i + 1) (by omega) (by omega) (by omega)
theorem l1All_tells (lo hi : Int) (l : List Int) (hl : l.length < 4611686018427387904) : Tells (fun k => spec_l1All.f k l lo hi) (l.all fun x => inB lo hi x) :=
  ⟨l.length + 1, fun k hk => by simpa [spec_l1All.f] using l1All_l0 lo hi l hl l.length k 0 (by omega) (by omega) (by omega)⟩

/-- The sum, as int reckons it. -/
def sum64 (a : Int) : List Int → Int
  | [] => a
  | x :: l => sum64 (wrap64 (a + x)) l
theorem sumOf_l0 (l : List Int) (hl : l.length < 4611686018427387904) (d : Nat) : ∀ (k i : Nat) (a : Int), i ≤ l.length → l.length - i = d → d < k →
    impl_sumOf.l0 k a l (l.length : Int) (i : Int) = some (sum64 a (l.drop i)) := by
  induction d with
  | zero =>
    intro k i a h1 hd hk
    obtain ⟨k, rfl⟩ : ∃ m, k = m + 1 := ⟨k - 1, by omega⟩
    simp only [impl_sumOf.l0]
    rw [if_neg (by omega), List.drop_of_length_le (by omega)]
    rfl
  | succ d ih =>
    intro k i a h1 hd hk
    obtain ⟨k, rfl⟩ : ∃ m, k = m + 1 := ⟨k - 1, by omega⟩
    have hin : i < l.length := by omega
    simp only [impl_sumOf.l0]
    rw [if_pos (by omega), if_pos (by omega), if_pos (by omega), w64 (x := (i : Int) + 1) (by omega) (by omega), List.drop_eq_getElem_cons hin, rd_at l i hin]
    exact ih k (i + 1) _ (by omega) (by omega) (by omega)
theorem used_l0 (k : Nat) : ∀ (a : Int) (l : List Int) (n i : Int), spec_boUsed.l0 k a l n i = impl_sumOf.l0 k a l n i := by
  induction k with
  | zero => intros; rfl
  | succ k ih => intros; simp only [impl_sumOf.l0, spec_boUsed.l0, ih]
theorem wrap_add (a b : Int) : wrap64 (wrap64 a + b) = wrap64 (a + b) := by
  unfold wrap64
  omega
theorem sum64_shift (l : List Int) : ∀ (a b : Int), wrap64 (sum64 a l + b) = wrap64 (sum64 (wrap64 (a + b)) l) := by
  induction l with
  | nil => intro a b; simp only [sum64]; unfold wrap64; omega
  | cons x l ih =>
    intro a b
    simp only [sum64]
    rw [ih (wrap64 (a + x)) b]
    congr 2
    unfold wrap64
    omega
theorem wrap_wrap (a : Int) : wrap64 (wrap64 a) = wrap64 a := by
  unfold wrap64
  omega
theorem sum64_wrapped (l : List Int) : ∀ (a : Int), wrap64 a = a → wrap64 (sum64 a l) = sum64 a l := by
  induction l with
  | nil => intro a h; exact h
  | cons x l ih => intro a h; exact ih _ (wrap_wrap _)
/-- What a round takes at least. -/
def busyOf (walk : Int) (l : List Int) : Int := sum64 (wrap64 (walk * (l.length : Int))) l
theorem used_tells (t w : Int) (l : List Int) (hl : l.length < 4611686018427387904) : Tells (fun k => spec_boUsed.f k t w l) (busyOf w l) :=
  ⟨l.length + 1, fun k hk => by simpa [spec_boUsed.f, busyOf, used_l0] using sumOf_l0 l hl l.length k 0 (wrap64 (w * (l.length : Int))) (by omega) (by omega) (by omega)⟩
theorem busy_tells (t w : Int) (l : List Int) (hl : l.length < 4611686018427387904) : Tells (fun k => impl_TimedRing_busy.f k t w l) (busyOf w l) := by
  refine ⟨l.length + 1, fun k hk => ?_⟩
  have h := sumOf_l0 l hl l.length k 0 0 (by omega) (by omega) (by omega)
  simp only [Int.natCast_zero, List.drop_zero] at h
  simp only [impl_TimedRing_busy.f, impl_sumOf.f, h, Option.bind_some, busyOf]
  rw [sum64_shift, Int.zero_add, wrap_wrap, sum64_wrapped _ _ (wrap_wrap _)]
/-- Is there a timed ring? -/
def timedB (t w : Int) (l : List Int) : Bool := inB 1 12 (l.length : Int) && (inB 1 200 t && (inB 1 20 w && ((l.all fun x => inB 0 200 x) && decide (busyOf w l ≤ t))))
theorem specTimed_tells (t w : Int) (l : List Int) (hl : l.length < 4611686018427387904) : Tells (fun k => spec_IsTimedRing.f k t w l) (timedB t w l) := by
  obtain ⟨K, hK⟩ := l1All_tells 0 200 l hl
  obtain ⟨L, hL⟩ := used_tells t w l hl
  refine ⟨K + L, fun k hk => ?_⟩
  simp only [spec_IsTimedRing.f, spec_boTimed.f, in_tells, hK k (by omega), hL k (by omega), Option.bind_some, timedB]
  cases inB 1 12 (l.length : Int) <;> cases inB 1 200 t <;> cases inB 1 20 w <;> cases (l.all fun x => inB 0 200 x) <;> simp
theorem timed_tells (t w : Int) (l : List Int) (hl : l.length < 4611686018427387904) : Tells (fun k => impl_IsTimedRing.f k t w l) (timedB t w l) := by
  obtain ⟨L, hL⟩ := busy_tells t w l hl
  refine ⟨L, fun k hk => ?_⟩
  simp only [impl_IsTimedRing.f, within_tells, impl_allWithin.f, if_pos hl, hL k (by omega), Option.bind_some, timedB]
  cases inB 1 12 (l.length : Int) <;> cases inB 1 200 t <;> cases inB 1 20 w <;> cases (l.all fun x => inB 0 200 x) <;> simp
theorem isTimed_pure (t w : Int) (l : List Int) (hl : l.length ≤ 17592186044416) : ∃ k, laws_FnExactIsTimedRing.f k t w l = some true := by
  obtain ⟨A, hA⟩ := toIntS_tells l hl
  obtain ⟨B, hB⟩ := timed_tells t w l (by omega)
  obtain ⟨C, hC⟩ := specTimed_tells t w l (by omega)
  obtain ⟨D, hD⟩ := eqIntS_tells l (by omega)
  refine ⟨A + B + C + D + 10, ?_⟩
  have e1 := hA (A + B + C + D + 10) (by omega)
  have e2 := hB (A + B + C + D + 10) (by omega)
  have e3 := hC (A + B + C + D + 10) (by omega)
  have e4 := hD (A + B + C + D + 10) (by omega)
  simp only at e1 e2 e3 e4
  simp only [laws_FnExactIsTimedRing.f, laws_szTimedRing.f, laws_szIntS.f, laws_toTimedRing.f, laws_eqTimedRing.f, e1, e2, e3, e4, Option.bind_some]
  generalize wrap64 (1048576 - (l.length : Int)) = z
  by_cases c : z < 0 <;> simp [c]

theorem core_FnExactIsTimedRing (t w : Int) (A : Option Addr) (c : Nat) (l : List Int) (W : World) (h : ((Lit.int .i64 t).wf = true ∧ (Lit.int .i64 w).wf = true) ∧ Kd.C (Kd.int .i64) W A l.length l ∧ l.length ≤ c ∧ l.length ≤ 17592186044416 ∧ ∀ x ∈ l, (Lit.int .i64 x).wf = true) :
    Calls Try.prog 8 #[.agg #[.int .i64 t, .int .i64 w, .slice A l.length c]] W fun e W' => e = .returned (.bool true) ∧ Below W.heap.size W W' := by
  obtain ⟨k, hk⟩ := isTimed_pure t w l h.2.2.2.1
  exact laws_FnExactIsTimedRing.calls k t w A c l W h.2.1 h.2.2.1 hk
end Go.Proofs.Ytidoghpbeilipaa.PB
