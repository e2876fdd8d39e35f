/- The laws on FirstDesk and IsDesk come to true; no condition but lengths below 2^44. -/
import Derived.Test.YtnemmfeonliolaaPureTo
import Derived.Test.YtnemmfeonliolaaPureEq
import Derived.Test.YtnemmfeonliolaaPureRise
import Derived.Test.YtnemmfeonliolaaKit
import Derived.Test.YtnemmfeonliolaaPA11
import Derived.Test.YtnemmfeonliolaaPA26
namespace Go.Proofs.Ytnemmfeonliolaa.PA
open Go.RowKit Go.Proofs.YtnemmfeonliolaaW.PrintWords Go.Proofs.YtnemmfeonliolaaW.PrintLast Go.Proofs.YtnemmfeonliolaaW.PrintMore
theorem l1AllD_l0 (lo hi : Int) (l : List Int) (hl : l.length < 4611686018427387904) (d : Nat) : ∀ (k i : Nat), i ≤ l.length → l.length - i = d → d < k →
    spec_l1All.l0 k lo hi l (l.length : Int) (i : Int) = some ((l.drop i).all fun x => inB lo hi x) := by
  induction d with
  | zero =>
    intro k i h1 hd hk
    obtain ⟨k, rfl⟩ : ∃ m, k = m + 1 := ⟨k - 1, by omega⟩
    simp only [spec_l1All.l0]
    rw [if_neg (by omega), List.drop_of_length_le (by omega)]
    rfl
  | succ d ih =>
    intro k i h1 hd hk
    obtain ⟨k, rfl⟩ : ∃ m, k = m + 1 := ⟨k - 1, by omega⟩
    have hin : i < l.length := by omega
    simp only [spec_l1All.l0, l1In_tells, Option.bind_some]
    rw [if_pos (by omega), if_pos (by omega), if_pos (by omega), w64 (by omega) (by omega), List.drop_eq_getElem_cons hin, List.all_cons, rd_at l i hin]
    cases inB lo hi l[i]
    · rfl
    · exact ih k (i + 1) (by omega) (by omega) (by omega)
/-- Is there a frame? -/
def frameB (a b c : Int) (l : List Int) : Bool := inB 0 11 a && (inB 0 11 b && (inB 0 7 c && (decide ((l.length : Int) ≤ 16) && l.all fun x => inB 0 255 x)))
theorem isFrame_tells (a b c : Int) (l : List Int) (hl : l.length < 4611686018427387904) : impl_IsFrame.f a b c l = some (frameB a b c l) := by
  simp only [impl_IsFrame.f, impl_isStation.f, within_tells, impl_allWithin.f, if_pos hl, Option.bind_some, frameB]
  cases inB 0 11 a <;> cases inB 0 11 b <;> cases inB 0 7 c <;> simp
  by_cases h : (l.length : Int) ≤ 16 <;> simp [h]
theorem frGood_tells (a b c : Int) (l : List Int) (hl : l.length < 4611686018427387904) : Tells (fun k => spec_frGood.f k a b c l) (frameB a b c l) := by
  refine ⟨l.length + 1, fun k hk => ?_⟩
  have h : spec_l1All.f k l 0 255 = some (l.all fun x => inB 0 255 x) := by simpa [spec_l1All.f] using l1AllD_l0 0 255 l hl l.length k 0 (by omega) (by omega) (by omega)
  simp only [spec_frGood.f, spec_frStation.f, l1In_tells, h, Option.bind_some, frameB]
  cases inB 0 11 a <;> cases inB 0 11 b <;> cases inB 0 7 c <;> simp
  by_cases h : (l.length : Int) ≤ 16 <;> simp [h]
theorem isDesk_pure (n : Int) (l : List Int) (a b c : Int) (m : List Int) (hl : l.length ≤ 17592186044416) (hm : m.length ≤ 17592186044416) : ∃ k, laws_FnExactIsDesk.f k n l a b c m = some true := by
  obtain ⟨A, hA⟩ := toIntS_tells l hl
  obtain ⟨A', hA'⟩ := toIntS_tells m hm
  obtain ⟨B, hB⟩ := isRing_tells n l (by omega)
  obtain ⟨C, hC⟩ := riGood_tells n l (by omega)
  obtain ⟨D, hD⟩ := eqIntS_tells l (by omega)
  obtain ⟨D', hD'⟩ := eqIntS_tells m (by omega)
  obtain ⟨E, hE⟩ := frGood_tells a b c m (by omega)
  refine ⟨A + A' + B + C + D + D' + E, ?_⟩
  have e1 := hA (A + A' + B + C + D + D' + E) (by omega)
  have e1' := hA' (A + A' + B + C + D + D' + E) (by omega)
  have e2 := hB (A + A' + B + C + D + D' + E) (by omega)
  have e3 := hC (A + A' + B + C + D + D' + E) (by omega)
  have e4 := hD (A + A' + B + C + D + D' + E) (by omega)
  have e4' := hD' (A + A' + B + C + D + D' + E) (by omega)
  have e5 := hE (A + A' + B + C + D + D' + E) (by omega)
  have e6 := isFrame_tells a b c m (by omega)
  generalize A + A' + B + C + D + D' + E = k at *
  simp only at e1 e1' e2 e3 e4 e4' e5
  have hz : ∃ z, laws_szDesk.f n l a b c m 1048576 = some z := by
    simp only [laws_szDesk.f, laws_szRing.f, laws_szFrame.f, laws_szIntS.f]
    repeat (first | exact ⟨_, rfl⟩ | split | (simp only [Option.bind_some]))
  obtain ⟨z, hz⟩ := hz
  simp only [laws_FnExactIsDesk.f, hz, laws_toDesk.f, laws_toRing.f, laws_toFrame.f, laws_eqDesk.f, laws_eqRing.f, laws_eqFrame.f, spec_IsDesk.f, spec_coGood.f, impl_IsDesk.f, e1, e1', e2, e3, e4, e4', e5, e6, Option.bind_some]
  by_cases c1 : z < 0
  · rw [if_pos c1]
  · rw [if_neg c1]
    generalize ringB n l = r
    generalize frameB a b c m = s
    cases r <;> cases s <;> simp
theorem firstDesk_pure : laws_FnExactFirstDesk.f 10 = some true := by decide +kernel
theorem core_FnExactFirstDesk (W : World) : Calls Try.prog 3 #[] W fun e W' => e = .returned (.bool true) ∧ Below W.heap.size W W' := laws_FnExactFirstDesk.calls 10 W firstDesk_pure
theorem core_FnExactIsDesk (n : Int) (A : Option Addr) (l : List Int) (ca : Nat) (a b c : Int) (B : Option Addr) (m : List Int) (cb : Nat) (W : World)
    (h : ((Lit.int .i64 n).wf = true ∧ Kit.LiFacts W A l ca) ∧ ((Lit.int .i64 a).wf = true ∧ (Lit.int .i64 b).wf = true ∧ (Lit.int .i64 c).wf = true) ∧ Kit.LiFacts W B m cb) :
    Calls Try.prog 4 #[.agg #[.int .i64 n, .slice A l.length ca, .int .i64 a, .int .i64 b, .int .i64 c, .slice B m.length cb]] W fun e W' => e = .returned (.bool true) ∧ Below W.heap.size W W' := by
  obtain ⟨k, hk⟩ := isDesk_pure n l a b c m h.1.2.2.2.1 h.2.2.2.2.1
  exact laws_FnExactIsDesk.calls k n A ca l a b c B cb m W h.1.2.1 h.1.2.2.1 h.2.2.1 h.2.2.2.1 hk
end Go.Proofs.Ytnemmfeonliolaa.PA
