/- Rows of numbers are the same as themselves, and rows that are marked read as they were marked; no condition but lengths. -/
import Derived.Test.YtoeddkfbhjmbmaaPureEq
import Derived.Test.YtoeddkfbhjmbmaaPureMark
import Derived.Test.YtoeddkfbhjmbmaaMarkSS
import Derived.Test.YtoeddkfbhjmbmaaPA45
import Derived.Test.YtoeddkfbhjmbmaaPA49
namespace Go.Proofs.Ytoeddkfbhjmbmaa.PA
open Go.RowKit Go.Proofs.YtoeddkfbhjmbmaaW.PrintWords Go.Proofs.YtoeddkfbhjmbmaaW.PrintLast Go.Proofs.YtoeddkfbhjmbmaaW.PrintMore
theorem rdl_at (x : List (List Int)) (i : Nat) (h : i < x.length) : rd_L2 x (i : Int) = x[i] := by
  unfold rd_L2
  simp [List.getD, h]
theorem eqSS_self (x : List (List Int)) (h1 : x.length < 1000000000) (h2 : ∀ r ∈ x, r.length < 1000000000) : Tells (fun k => laws_eqIntSS.f k x x) true := by
  have key := for_rule (fun k i (_ : Unit) => laws_eqIntSS.l0 k x x (i : Int)) x.length (fun _ _ => True) (fun r => r = true)
    (fun i v hi _ => by
      obtain ⟨K, hK⟩ := eqIntS_tells x[i] (by have := h2 _ (List.getElem_mem hi); omega)
      refine .inl ⟨(), ⟨K, fun k hk => ?_⟩, trivial⟩
      simp only [laws_eqIntSS.l0]
      have e2 := hK k hk
      simp only at e2
      rw [if_pos (by omega), if_pos (by omega), if_pos (by omega), rdl_at x i hi, e2]
      simp only [Option.bind_some, if_true]
      rw [w64 (x := (i : Int) + 1) (by omega) (by omega)]
      rfl)
    (fun v _ => ⟨true, Tells.succ (Tells.now fun k => by
      simp only [laws_eqIntSS.l0]
      rw [if_neg (by omega)]), rfl⟩)
  obtain ⟨q, hq, rfl⟩ := key 0 () (by omega) trivial
  simp only [laws_eqIntSS.f, if_true]
  exact hq
/-- What marking rows leaves, and how far the marks have come. -/
def markedSS (v : Int) : List (List Int) → List (List Int)
  | [] => []
  | r :: x => marked v r.length :: markedSS (v + r.length) x
def sizeSS : List (List Int) → Nat
  | [] => 0
  | r :: x => r.length + sizeSS x
theorem markedSS_len (x : List (List Int)) : ∀ v, (markedSS v x).length = x.length := by
  induction x with
  | nil => intro v; rfl
  | cons r x ih => intro v; simp [markedSS, ih]
theorem sizeSS_le (x : List (List Int)) (h2 : ∀ r ∈ x, r.length < 1000000000) : sizeSS x ≤ x.length * 1000000000 := by
  induction x with
  | nil => simp [sizeSS]
  | cons r x ih =>
    have h := h2 r (by simp)
    have h3 := ih (fun q hq => h2 q (by simp [hq]))
    simp only [sizeSS, List.length_cons]
    omega
theorem markIntS_at (l : List Int) (v : Int) (h0 : 0 ≤ v) (h : v + l.length < 1000000000000000) {k : Nat} (hk : l.length < k) : laws_markIntS.f k l v = some (v + (l.length : Int), marked v l.length) := by
  unfold laws_markIntS.f
  have h := markIntS_l0 l.length k 0 l v (by omega) (by omega) hk h0 (by omega) (by omega)
  simpa using h
theorem heldIntS_at (n : Nat) (v : Int) (h0 : 0 ≤ v) (h : v + n < 1000000000000000) {k : Nat} (hk : n < k) : laws_heldIntS.f k (marked v n) v = some (v + (n : Int)) := by
  unfold laws_heldIntS.f
  have h := heldIntS_l0 (marked v n) v h0 (by rw [marked_length]; omega) (fun i hi => marked_get n v i (by rwa [marked_length] at hi)) n k 0 (by omega) (by rw [marked_length]; omega) hk
  rw [marked_length] at h
  simpa using h
theorem markSS_l0 (B : Nat) (pre : List (List Int)) : ∀ (x : List (List Int)) (v : Int) (k : Nat), (∀ r ∈ x, r.length ≤ B) → 0 ≤ v → v + sizeSS x < 100000000000000 → (pre ++ x).length < 1000000000 → x.length + B < k →
    ∀ done : List (List Int), done.length = pre.length → laws_markIntSS.l0 k (done ++ x) v (pre.length : Int) = some (v + sizeSS x, done ++ markedSS v x) := by
  intro x
  induction x generalizing pre with
  | nil =>
    intro v k h2 h0 hv hl hk done hd
    obtain ⟨k, rfl⟩ : ∃ m, k = m + 1 := ⟨k - 1, by omega⟩
    simp only [laws_markIntSS.l0]
    rw [if_neg (by simp; omega)]
    simp [sizeSS, markedSS]
  | cons r x ih =>
    intro v k h2 h0 hv hl hk done hd
    obtain ⟨k, rfl⟩ : ∃ m, k = m + 1 := ⟨k - 1, by omega⟩
    simp only [sizeSS] at hv
    simp only [List.length_append, List.length_cons] at hl hk
    have hr := h2 r (by simp)
    simp only [laws_markIntSS.l0]
    have hg : (done ++ r :: x).getD (pre.length : Int).toNat [] = r := by
      rw [Int.toNat_natCast, ← hd, List.getD_eq_getElem?_getD, List.getElem?_append_right (Nat.le_refl _)]
      simp
    rw [if_pos (by simp; omega), if_pos (by omega), hg, markIntS_at r v h0 (by omega) (by omega)]
    simp only [Option.bind_some]
    have hs : (done ++ r :: x).set (pre.length : Int).toNat (marked v r.length) = (done ++ [marked v r.length]) ++ x := by
      rw [Int.toNat_natCast, ← hd, List.set_append_right _ _ (Nat.le_refl _)]
      simp
    rw [hs, w64 (by omega) (by omega), show ((pre.length : Int) + 1) = ((pre ++ [r]).length : Int) by simp]
    rw [ih (pre ++ [r]) (v + r.length) k (fun q hq => h2 q (by simp [hq])) (by omega) (by omega) (by simp; omega) (by omega) (done ++ [marked v r.length]) (by simp [hd])]
    simp only [sizeSS, markedSS, List.append_assoc, List.singleton_append, Option.some.injEq, Prod.mk.injEq, and_true]
    omega
theorem markSS_tells (x : List (List Int)) (B : Nat) (hB : B < 1000000) (h1 : x.length < 1000000) (h2 : ∀ r ∈ x, r.length ≤ B) : Tells (fun k => laws_markIntSS.f k x 1) (1 + (sizeSS x : Int), markedSS 1 x) := by
  refine ⟨x.length + B + 1, fun k hk => ?_⟩
  have hs : sizeSS x ≤ x.length * 1000000 := by
    clear hk h1
    induction x with
    | nil => simp [sizeSS]
    | cons r x ih =>
      have h := h2 r (by simp)
      have h3 := ih (fun q hq => h2 q (by simp [hq]))
      simp only [sizeSS, List.length_cons]
      omega
  have := markSS_l0 B [] x 1 k h2 (by omega) (by omega) (by simp; omega) (by omega) [] rfl
  simpa [laws_markIntSS.f] using this
theorem heldSS_l0 (B : Nat) (done : List (List Int)) : ∀ (x : List (List Int)) (v : Int) (k : Nat), (∀ r ∈ x, r.length ≤ B) → 0 ≤ v → v + sizeSS x < 100000000000000 → (done ++ x).length < 1000000000 → x.length + B < k →
    laws_heldIntSS.l0 k (done ++ markedSS v x) v (done.length : Int) = some (v + sizeSS x) := by
  intro x
  induction x generalizing done with
  | nil =>
    intro v k h2 h0 hv hl hk
    obtain ⟨k, rfl⟩ : ∃ m, k = m + 1 := ⟨k - 1, by omega⟩
    simp only [laws_heldIntSS.l0]
    rw [if_neg (by simp [markedSS])]
    simp [sizeSS]
  | cons r x ih =>
    intro v k h2 h0 hv hl hk
    obtain ⟨k, rfl⟩ : ∃ m, k = m + 1 := ⟨k - 1, by omega⟩
    simp only [sizeSS] at hv
    simp only [List.length_append, List.length_cons] at hl hk
    have hr := h2 r (by simp)
    have hml := markedSS_len x (v + r.length)
    rw [show markedSS v (r :: x) = marked v r.length :: markedSS (v + r.length) x from rfl]
    simp only [laws_heldIntSS.l0]
    have hg : rd_L2 (done ++ marked v r.length :: markedSS (v + r.length) x) (done.length : Int) = marked v r.length := by
      rw [rdl_at _ _ (by simp)]
      simp
    rw [if_pos (by simp only [List.length_append, List.length_cons]; omega), if_pos (by omega), hg, heldIntS_at r.length v h0 (by omega) (by omega)]
    simp only [Option.bind_some]
    rw [if_neg (by omega), w64 (by omega) (by omega), show ((done.length : Int) + 1) = ((done ++ [marked v r.length]).length : Int) by simp]
    have := ih (done ++ [marked v r.length]) (v + r.length) k (fun q hq => h2 q (by simp [hq])) (by omega) (by omega) (by simp; omega) (by omega)
    rw [List.append_assoc, List.singleton_append] at this
    rw [this]
    simp only [sizeSS, Option.some.injEq]
    omega
theorem heldSS_tells (x : List (List Int)) (B : Nat) (hB : B < 1000000) (h1 : x.length < 1000000) (h2 : ∀ r ∈ x, r.length ≤ B) : Tells (fun k => laws_heldIntSS.f k (markedSS 1 x) 1) (1 + (sizeSS x : Int)) := by
  refine ⟨x.length + B + 1, fun k hk => ?_⟩
  have hs : sizeSS x ≤ x.length * 1000000 := by
    clear hk h1
    induction x with
    | nil => simp [sizeSS]
    | cons r x ih =>
      have h := h2 r (by simp)
      have h3 := ih (fun q hq => h2 q (by simp [hq]))
      simp only [sizeSS, List.length_cons]
      omega
  have := heldSS_l0 B [] x 1 k h2 (by omega) (by omega) (by simp; omega) (by omega)
  simpa [laws_heldIntSS.f] using this
theorem marked_lens (x : List (List Int)) (B : Nat) (h2 : ∀ r ∈ x, r.length ≤ B) : ∀ v, ∀ r ∈ markedSS v x, r.length ≤ B := by
  induction x with
  | nil => intro v r hr; simp [markedSS] at hr
  | cons q x ih =>
    intro v r hr
    simp only [markedSS, List.mem_cons] at hr
    rcases hr with rfl | hr
    · rw [marked_length]; exact h2 q (by simp)
    · exact ih (fun q hq => h2 q (by simp [hq])) _ r hr
end Go.Proofs.Ytoeddkfbhjmbmaa.PA
