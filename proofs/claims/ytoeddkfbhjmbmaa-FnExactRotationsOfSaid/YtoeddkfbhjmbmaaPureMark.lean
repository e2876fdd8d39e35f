/- A list of numbers that is marked reads as it was marked; no condition but lengths below 2^62. -/
import Derived.Test.YtoeddkfbhjmbmaaPure0
import Derived.Test.YtoeddkfbhjmbmaaPA29
import Derived.Test.YtoeddkfbhjmbmaaPA30
namespace Go.Proofs.Ytoeddkfbhjmbmaa.PA
open Go.RowKit Go.Proofs.YtoeddkfbhjmbmaaW.PrintWords Go.Proofs.YtoeddkfbhjmbmaaW.PrintLast Go.Proofs.YtoeddkfbhjmbmaaW.PrintMore
/-- What marking leaves. -/
def marked (v : Int) : Nat → List Int
  | 0 => []
  | n + 1 => v :: marked (v + 1) n
theorem marked_length (v : Int) (n : Nat) : (marked v n).length = n := by
  induction n generalizing v with
  | zero => rfl
  | succ n ih => simp [marked, ih]
theorem marked_get (n : Nat) : ∀ (v : Int) (i : Nat), i < n → (marked v n).getD i 0 = v + i := by
  induction n with
  | zero => intro v i h; omega
  | succ n ih =>
    intro v i h
    cases i with
    | zero => simp [marked]
    | succ i =>
      simp only [marked, List.getD_cons_succ]
      rw [ih (v + 1) i (by omega)]
      omega
theorem markIntS_l0 (d : Nat) : ∀ (k i : Nat) (l : List Int) (v : Int), i ≤ l.length → l.length - i = d → d < k → 0 ≤ v → v + l.length < 4611686018427387904 + (i : Int) → l.length < 4611686018427387904 →
    laws_markIntS.l0 k l v (i : Int) = some (v + d, l.take i ++ marked v d) := by
  induction d with
  | zero =>
    intro k i l v h1 hd hk hv hv2 hv3
    obtain ⟨k, rfl⟩ : ∃ m, k = m + 1 := ⟨k - 1, by omega⟩
    simp only [laws_markIntS.l0]
    rw [if_neg (by omega), List.take_of_length_le (by omega)]
    simp [marked]
  | succ d ih =>
    intro k i l v h1 hd hk hv hv2 hv3
    obtain ⟨k, rfl⟩ : ∃ m, k = m + 1 := ⟨k - 1, by omega⟩
    simp only [laws_markIntS.l0]
    rw [if_pos (by omega), if_pos (by omega), w64 (by omega) (by omega), w64 (by omega) (by omega)]
    rw [show ((i : Int) + 1) = ((i + 1 : Nat) : Int) from by omega, ih k (i + 1) _ (v + 1) (by simp; omega) (by simp; omega) (by omega) (by omega) (by simp; omega) (by simpa using hv3)]
    rw [Int.toNat_natCast, take_set_succ l i v (by omega)]
    simp only [marked, List.append_assoc, List.singleton_append, Option.some.injEq, Prod.mk.injEq, and_true]
    omega
theorem markIntS_tells (l : List Int) (hl : l.length < 4611686018427387900) {k : Nat} (hk : l.length < k) : laws_markIntS.f k l 1 = some (1 + (l.length : Int), marked 1 l.length) := by
  unfold laws_markIntS.f
  have h := markIntS_l0 l.length k 0 l 1 (by omega) (by omega) hk (by omega) (by omega) (by omega)
  simpa using h
theorem heldIntS_l0 (l : List Int) (a : Int) (ha : 0 ≤ a) (hl : a + l.length < 4611686018427387904) (hm : ∀ i, i < l.length → l.getD i 0 = a + i) (d : Nat) :
    ∀ (k i : Nat), i ≤ l.length → l.length - i = d → d < k → laws_heldIntS.l0 k l (a + i) (i : Int) = some (a + l.length) := by
  induction d with
  | zero =>
    intro k i h1 hd hk
    obtain ⟨k, rfl⟩ : ∃ m, k = m + 1 := ⟨k - 1, by omega⟩
    simp only [laws_heldIntS.l0]
    rw [if_neg (by omega)]
    congr 1
    omega
  | succ d ih =>
    intro k i h1 hd hk
    obtain ⟨k, rfl⟩ : ∃ m, k = m + 1 := ⟨k - 1, by omega⟩
    simp only [laws_heldIntS.l0]
    have e : rd l (i : Int) = a + i := by
      unfold rd
      rw [Int.toNat_natCast]
      exact hm i (by omega)
    rw [if_pos (by omega), if_pos (by omega), if_pos e, w64 (by omega) (by omega), w64 (by omega) (by omega)]
    have := ih k (i + 1) (by omega) (by omega) (by omega)
    rw [show a + ((i + 1 : Nat) : Int) = a + i + 1 from by omega, show ((i + 1 : Nat) : Int) = (i : Int) + 1 from by omega] at this
    exact this
theorem heldIntS_tells (n : Nat) (hn : n < 4611686018427387900) {k : Nat} (hk : n < k) : laws_heldIntS.f k (marked 1 n) 1 = some (1 + (n : Int)) := by
  unfold laws_heldIntS.f
  have h := heldIntS_l0 (marked 1 n) 1 (by omega) (by rw [marked_length]; omega) (fun i hi => marked_get n 1 i (by rwa [marked_length] at hi)) n k 0 (by omega) (by rw [marked_length]; omega) hk
  rw [marked_length] at h
  simpa using h
end Go.Proofs.Ytoeddkfbhjmbmaa.PA
