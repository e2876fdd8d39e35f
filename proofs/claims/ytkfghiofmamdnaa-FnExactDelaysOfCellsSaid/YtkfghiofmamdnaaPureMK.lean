/- The marking of lists, and lists that are the same, as the laws ask it; no condition but lengths. -/
import Derived.Test.YtkfghiofmamdnaaPureMsg
import Derived.Test.YtkfghiofmamdnaaPA27
import Derived.Test.YtkfghiofmamdnaaPure0
import Derived.Test.YtkfghiofmamdnaaPA28
import Derived.Test.YtkfghiofmamdnaaPA29
import Derived.Test.YtkfghiofmamdnaaPA26
namespace Go.Proofs.Ytkfghiofmamdnaa.PA
open Go.RowKit Go.Proofs.YtkfghiofmamdnaaW.PrintWords Go.Proofs.YtkfghiofmamdnaaW.PrintLast Go.Proofs.YtkfghiofmamdnaaW.PrintMore
theorem markMessageS_l0 (d : Nat) : ∀ (k i : Nat) (x : List S60) (v : Int), i ≤ x.length → x.length - i = d → d < k → 0 ≤ v → v ≤ 1 + 3 * (i : Int) → x.length < 1000000000000 →
    ∃ r, laws_markMessageS.l0 k x v (i : Int) = some r ∧ 0 ≤ r.1 := by
  induction d with
  | zero =>
    intro k i x v h1 hd hk h0 hv hl
    obtain ⟨k, rfl⟩ : ∃ m, k = m + 1 := ⟨k - 1, by omega⟩
    simp only [laws_markMessageS.l0]
    rw [if_neg (by omega)]
    exact ⟨_, rfl, h0⟩
  | succ d ih =>
    intro k i x v h1 hd hk h0 hv hl
    obtain ⟨k, rfl⟩ : ∃ m, k = m + 1 := ⟨k - 1, by omega⟩
    simp only [laws_markMessageS.l0, Option.bind_some]
    rw [if_pos (by omega), if_pos (by omega), w64 (x := v + 1) (by omega) (by omega), w64 (x := v + 1 + 1) (by omega) (by omega), w64 (x := v + 1 + 1 + 1) (by omega) (by omega), w64 (x := (i : Int) + 1) (by omega) (by omega)]
    exact ih k (i + 1) _ _ (by simp only [List.length_set]; omega) (by simp only [List.length_set]; omega) (by omega) (by omega) (by omega) (by simp only [List.length_set]; omega)
theorem markMessageS_tells (l : List S60) (hl : l.length < 1000000000000) {k : Nat} (hk : l.length < k) : ∃ r, laws_markMessageS.f k l 1 = some r ∧ 0 ≤ r.1 := markMessageS_l0 l.length k 0 l 1 (by omega) (by omega) hk (by omega) (by omega) hl
end Go.Proofs.Ytkfghiofmamdnaa.PA
namespace Go.Proofs.Ytkfghiofmamdnaa.PA
open Go.RowKit Go.Proofs.YtkfghiofmamdnaaW.PrintWords Go.Proofs.YtkfghiofmamdnaaW.PrintLast Go.Proofs.YtkfghiofmamdnaaW.PrintMore
/-- What marking leaves. -/
def marked (v : Int) : Nat → List Int
  | 0 => []
  | n + 1 => v :: marked (v + 1) n
theorem marked_length (v : Int) (n : Nat) : (marked v n).length = n := by
  induction n generalizing v with
  | zero => rfl
  | succ n ih => simp [marked, ih]
theorem marked_get (n : Nat) : ∀ (v : Int) (i : Nat), i < n → (marked v n).getD i 0 = v + i := by
  induction n with
  | zero => intro v i h; omega
  | succ n ih =>
    intro v i h
    cases i with
    | zero => simp [marked]
    | succ i =>
      simp only [marked, List.getD_cons_succ]
      rw [ih (v + 1) i (by omega)]
      omega
theorem markIntS_l0 (d : Nat) : ∀ (k i : Nat) (l : List Int) (v : Int), i ≤ l.length → l.length - i = d → d < k → 0 ≤ v → v + l.length < 4611686018427387904 + (i : Int) → l.length < 4611686018427387904 →
    laws_markIntS.l0 k l v (i : Int) = some (v + d, l.take i ++ marked v d) := by
  induction d with
  | zero =>
    intro k i l v h1 hd hk hv hv2 hv3
    obtain ⟨k, rfl⟩ : ∃ m, k = m + 1 := ⟨k - 1, by omega⟩
    simp only [laws_markIntS.l0]
    rw [if_neg (by omega), List.take_of_length_le (by omega)]
    simp [marked]
  | succ d ih =>
    intro k i l v h1 hd hk hv hv2 hv3
    obtain ⟨k, rfl⟩ : ∃ m, k = m + 1 := ⟨k - 1, by omega⟩
    simp only [laws_markIntS.l0]
    rw [if_pos (by omega), if_pos (by omega), w64 (by omega) (by omega), w64 (by omega) (by omega)]
    rw [show ((i : Int) + 1) = ((i + 1 : Nat) : Int) from by omega, ih k (i + 1) _ (v + 1) (by simp; omega) (by simp; omega) (by omega) (by omega) (by simp; omega) (by simpa using hv3)]
    rw [Int.toNat_natCast, take_set_succ l i v (by omega)]
    simp only [marked, List.append_assoc, List.singleton_append, Option.some.injEq, Prod.mk.injEq, and_true]
    omega
theorem markIntS_tells (l : List Int) (hl : l.length < 4611686018427387900) {k : Nat} (hk : l.length < k) : laws_markIntS.f k l 1 = some (1 + (l.length : Int), marked 1 l.length) := by
  unfold laws_markIntS.f
  have h := markIntS_l0 l.length k 0 l 1 (by omega) (by omega) hk (by omega) (by omega) (by omega)
  simpa using h
theorem heldIntS_l0 (l : List Int) (a : Int) (ha : 0 ≤ a) (hl : a + l.length < 4611686018427387904) (hm : ∀ i, i < l.length → l.getD i 0 = a + i) (d : Nat) :
    ∀ (k i : Nat), i ≤ l.length → l.length - i = d → d < k → laws_heldIntS.l0 k l (a + i) (i : Int) = some (a + l.length) := by
  induction d with
  | zero =>
    intro k i h1 hd hk
    obtain ⟨k, rfl⟩ : ∃ m, k = m + 1 := ⟨k - 1, by omega⟩
    simp only [laws_heldIntS.l0]
    rw [if_neg (by omega)]
    congr 1
    omega
  | succ d ih =>
    intro k i h1 hd hk
    obtain ⟨k, rfl⟩ : ∃ m, k = m + 1 := ⟨k - 1, by omega⟩
    simp only [laws_heldIntS.l0]
    have e : rd l (i : Int) = a + i := by
      unfold rd
      rw [Int.toNat_natCast]
      exact hm i (by omega)
    rw [if_pos (by omega), if_pos (by omega), if_pos e, w64 (by omega) (by omega), w64 (by omega) (by omega)]
    have := ih k (i + 1) (by omega) (by omega) (by omega)
    rw [show a + ((i + 1 : Nat) : Int) = a + i + 1 from by omega, show ((i + 1 : Nat) : Int) = (i : Int) + 1 from by omega] at this
    exact this
theorem heldIntS_tells (n : Nat) (hn : n < 4611686018427387900) {k : Nat} (hk : n < k) : laws_heldIntS.f k (marked 1 n) 1 = some (1 + (n : Int)) := by
  unfold laws_heldIntS.f
  have h := heldIntS_l0 (marked 1 n) 1 (by omega) (by rw [marked_length]; omega) (fun i hi => marked_get n 1 i (by rwa [marked_length] at hi)) n k 0 (by omega) (by rw [marked_length]; omega) hk
  rw [marked_length] at h
  simpa using h
end Go.Proofs.Ytkfghiofmamdnaa.PA
namespace Go.Proofs.Ytkfghiofmamdnaa.PA
open Go.RowKit Go.Proofs.YtkfghiofmamdnaaW.PrintWords Go.Proofs.YtkfghiofmamdnaaW.PrintLast Go.Proofs.YtkfghiofmamdnaaW.PrintMore
theorem eqIntS_l0 (l : List Int) (hl : l.length < 4611686018427387904) (d : Nat) : ∀ (k i : Nat), i ≤ l.length → l.length - i = d → d < k → laws_eqIntS.l0 k l l (i : Int) = some true := by
  induction d with
  | zero =>
    intro k i h1 hd hk
    obtain ⟨k, rfl⟩ : ∃ m, k = m + 1 := ⟨k - 1, by omega⟩
    simp only [laws_eqIntS.l0]
    rw [if_neg (by omega)]
  | succ d ih =>
    intro k i h1 hd hk
    obtain ⟨k, rfl⟩ : ∃ m, k = m + 1 := ⟨k - 1, by omega⟩
    simp only [laws_eqIntS.l0]
    rw [if_pos (by omega), if_pos (by omega), if_pos (by omega), if_pos True.intro, w64 (by omega) (by omega)]
    exact ih k (i + 1) (by omega) (by omega) (by omega)
theorem eqIntS_self (l : List Int) (hl : l.length < 4611686018427387904) {k : Nat} (hk : l.length < k) : laws_eqIntS.f k l l = some true := by
  unfold laws_eqIntS.f
  rw [if_pos rfl]
  exact eqIntS_l0 l hl l.length k 0 (by omega) (by omega) (by omega)

theorem eqIntS_tells (l : List Int) (hl : l.length < 4611686018427387904) : Tells (fun k => laws_eqIntS.f k l l) true := ⟨l.length + 1, fun k hk => eqIntS_self l hl (by omega)⟩
end Go.Proofs.Ytkfghiofmamdnaa.PA
