/- What the reference's cursor over bytes draws: it always tells something, in its bounds; no condition but that bytes are bytes. -/
import Derived.Test.YtoeddkfbhjmbmaaPure0
import Derived.Test.YtoeddkfbhjmbmaaPB17
import Derived.Test.YtoeddkfbhjmbmaaPB16
namespace Go.Proofs.Ytoeddkfbhjmbmaa.PB
open Go Go.RowKit Go.Proofs.YtoeddkfbhjmbmaaW.PrintWords Go.Proofs.YtoeddkfbhjmbmaaW.PrintLast Go.Proofs.YtoeddkfbhjmbmaaW.PrintMore
set_option linter.unusedVariables false
def isBytes (s : List Int) : Prop := ∀ x ∈ s, 0 ≤ x ∧ x ≤ 255
theorem rd_bytes {s : List Int} (h : isBytes s) (i : Int) : 0 ≤ rd s i ∧ rd s i ≤ 255 := by
  unfold rd
  by_cases hi : i.toNat < s.length
  · rw [List.getD_eq_getElem?_getD, List.getElem?_eq_getElem hi]
    exact h _ (List.getElem_mem hi)
  · rw [List.getD_eq_getElem?_getD, List.getElem?_eq_none (by omega)]
    simp
theorem and255 (y : Int) : 0 ≤ Go.bits .and .u64 y 255 ∧ Go.bits .and .u64 y 255 ≤ 255 := by
  have h : Go.bits .and .u64 y 255 = IntKind.u64.wrap ((((BitVec.ofInt 64 y) &&& (BitVec.ofInt 64 255)).toNat : Nat) : Int) := rfl
  have h2 : (BitVec.ofInt 64 255).toNat = 255 := by decide
  have h3 : (BitVec.ofInt 64 y).toNat &&& 255 ≤ 255 := Nat.and_le_right
  rw [h, BitVec.toNat_and, h2]
  generalize (BitVec.ofInt 64 y).toNat &&& 255 = z at h3
  simp only [IntKind.wrap, IntKind.bits, IntKind.signed]
  simp
  omega
theorem next_tells {s : List Int} (hs : isBytes s) (hl : s.length ≤ 4294967296) (a sd : Int) (h0 : 0 ≤ a) (h1 : a ≤ 1099511627776) : ∃ x sd', spec_l1Cur_next.f s a sd = some (x, a + 1, sd') ∧ 0 ≤ x ∧ x ≤ 255 := by
  have hb := rd_bytes hs a
  unfold spec_l1Cur_next.f
  rw [w64 (x := a + 1) (by omega) (by omega)]
  by_cases c : a < (s.length : Int)
  · rw [if_pos c, if_pos h0, if_pos (by omega), w64 (x := rd s a) (by omega) (by omega)]
    exact ⟨_, _, rfl, hb⟩
  · rw [if_neg c, if_neg (by omega)]
    have h2 := and255 ((IntKind.u64.wrap ((IntKind.u64.wrap ((IntKind.u64.wrap (sd * 6364136223846793005)))) + 1442695040888963407)) / 1099511627776)
    rw [w64 (by omega) (by omega)]
    exact ⟨_, _, rfl, h2⟩
theorem pick_tells {s : List Int} (hs : isBytes s) (hl : s.length ≤ 4294967296) (a sd n : Int) (h0 : 0 ≤ a) (h1 : a ≤ 1099511627770) : ∃ x a' sd', spec_l1Cur_pick.f s a sd n = some (x, a', sd') ∧ 0 ≤ x ∧ (x < n ∨ x = 0) ∧ a ≤ a' ∧ a' ≤ a + 2 := by
  unfold spec_l1Cur_pick.f
  by_cases c : n ≤ 1
  · rw [if_pos c]
    exact ⟨0, a, sd, rfl, by omega, .inr rfl, by omega, by omega⟩
  · rw [if_neg c]
    obtain ⟨x, sd1, e1, hx⟩ := next_tells hs hl a sd h0 (by omega)
    rw [e1]
    simp only [Option.bind_some]
    by_cases c2 : n > 200
    · rw [if_pos c2]
      obtain ⟨y, sd2, e2, hy⟩ := next_tells hs hl (a + 1) sd1 (by omega) (by omega)
      rw [e2]
      simp only [Option.bind_some]
      rw [if_neg (by omega), w64 (x := x * 256) (by omega) (by omega), w64 (by omega) (by omega), Int.tmod_eq_emod_of_nonneg (by omega)]
      exact ⟨_, _, _, rfl, Int.emod_nonneg _ (by omega), .inl (Int.emod_lt_of_pos _ (by omega)), by omega, by omega⟩
    · rw [if_neg c2, if_neg (by omega), Int.tmod_eq_emod_of_nonneg (by omega)]
      exact ⟨_, _, _, rfl, Int.emod_nonneg _ (by omega), .inl (Int.emod_lt_of_pos _ (by omega)), by omega, by omega⟩
theorem one_tells {s : List Int} (hs : isBytes s) (hl : s.length ≤ 4294967296) (a sd n : Int) (h0 : 0 ≤ a) (h1 : a ≤ 1099511627770) : ∃ b a' sd', spec_l1Cur_one.f s a sd n = some (b, a', sd') ∧ a ≤ a' ∧ a' ≤ a + 2 := by
  obtain ⟨x, a', sd', e, _, _, h2, h3⟩ := pick_tells hs hl a sd n h0 h1
  unfold spec_l1Cur_one.f
  rw [e]
  exact ⟨_, _, _, rfl, h2, h3⟩
theorem among_tells {s : List Int} (hs : isBytes s) (hl : s.length ≤ 4294967296) (a sd : Int) (l : List Int) (hne : 0 < l.length) (h0 : 0 ≤ a) (h1 : a ≤ 1099511627770) : ∃ x a' sd', spec_l1Cur_among.f s a sd l = some (x, a', sd') ∧ x ∈ l ∧ a ≤ a' ∧ a' ≤ a + 2 := by
  obtain ⟨x, a', sd', e, hx0, hx, h2, h3⟩ := pick_tells hs hl a sd l.length h0 h1
  unfold spec_l1Cur_among.f
  rw [e]
  simp only [Option.bind_some]
  have hlt : x.toNat < l.length := by omega
  rw [if_pos hx0, if_pos (by omega)]
  refine ⟨_, _, _, rfl, ?_, h2, h3⟩
  simp only [rd, List.getD_eq_getElem?_getD, List.getElem?_eq_getElem hlt, Option.getD_some]
  exact List.getElem_mem hlt
end Go.Proofs.Ytoeddkfbhjmbmaa.PB
