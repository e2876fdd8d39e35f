/- Plain facts on the words of the printed texts; no condition but what each names. -/
import Derived.Test.YtoeddkfbhjmbmaaPB0
namespace Go.Proofs.Ytoeddkfbhjmbmaa.PB
open Go.RowKit Go.Proofs.YtoeddkfbhjmbmaaW.PrintWords Go.Proofs.YtoeddkfbhjmbmaaW.PrintLast Go.Proofs.YtoeddkfbhjmbmaaW.PrintMore
theorem w64 {x : Int} (h1 : -9223372036854775808 ≤ x) (h2 : x ≤ 9223372036854775807) : wrap64 x = x := by
  unfold wrap64
  omega

theorem rd_at (l : List Int) (i : Nat) (h : i < l.length) : rd l (i : Int) = l[i] := by
  unfold rd
  simp [List.getD, h]

theorem take_set_succ {α : Type} (l : List α) (i : Nat) (v : α) (h : i < l.length) : (l.set i v).take (i + 1) = l.take i ++ [v] := by
  rw [List.take_succ_eq_append_getElem (by simpa using h), List.take_set, List.set_eq_of_length_le (by simp; omega)]
  simp
theorem rd_nat (l : List Int) (i : Nat) : rd l (i : Int) = l.getD i 0 := by
  unfold rd
  rw [Int.toNat_natCast]
/-- From some number of rounds on it tells r. -/
def Tells {α : Type} (g : Nat → Option α) (r : α) : Prop := ∃ K, ∀ k, K ≤ k → g k = some r
theorem Tells.now {α : Type} {g : Nat → Option α} {r : α} (h : ∀ k, g k = some r) : Tells g r := ⟨0, fun k _ => h k⟩
theorem Tells.step {α : Type} {g f : Nat → Option α} {r : α} (h : ∀ k, g (k + 1) = f k) (hf : Tells f r) : Tells g r := by
  obtain ⟨K, hK⟩ := hf
  refine ⟨K + 1, fun k hk => ?_⟩
  obtain ⟨k, rfl⟩ : ∃ m, k = m + 1 := ⟨k - 1, by omega⟩
  rw [h]
  exact hK k (by omega)
theorem Tells.bind {α β : Type} {g : Nat → Option α} {f : Nat → α → Option β} {a : α} {r : β} (hg : Tells g a) (hf : Tells (fun k => f k a) r) : Tells (fun k => (g k).bind (f k)) r := by
  obtain ⟨K, hK⟩ := hg
  obtain ⟨L, hL⟩ := hf
  exact ⟨max K L, fun k hk => by show (g k).bind (f k) = some r; rw [hK k (by omega), Option.bind_some]; exact hL k (by omega)⟩
theorem Tells.at_ {α : Type} {g : Nat → Option α} {r : α} (h : Tells g r) : ∃ k, g k = some r := by
  obtain ⟨K, hK⟩ := h
  exact ⟨K, hK K (Nat.le_refl _)⟩
theorem Tells.congr {α : Type} {g f : Nat → Option α} {r : α} (h : ∀ k, g k = f k) (hf : Tells f r) : Tells g r := by
  obtain ⟨K, hK⟩ := hf
  exact ⟨K, fun k hk => (h k).trans (hK k hk)⟩
theorem Tells.succ {α : Type} {g : Nat → Option α} {r : α} (h : Tells (fun k => g (k + 1)) r) : Tells g r := Tells.step (f := fun k => g (k + 1)) (fun _ => rfl) h
theorem Tells.up {α : Type} {g : Nat → Option α} {r : α} (h : Tells g r) : Tells (fun k => g (k + 1)) r := by
  obtain ⟨K, hK⟩ := h
  exact ⟨K, fun k hk => hK (k + 1) (by omega)⟩
/-- A loop ends, and something holds of what it tells. -/
theorem while_rule {σ α : Type} (F : Nat → σ → Option α) (inv : σ → Prop) (μ : σ → Nat) (Q : α → Prop)
    (hstep : ∀ s, inv s → (∃ s', (∃ K, ∀ k, K ≤ k → F (k + 1) s = F k s') ∧ inv s' ∧ μ s' < μ s) ∨ (∃ r, Tells (fun k => F k s) r ∧ Q r)) : ∀ s, inv s → ∃ r, Tells (fun k => F k s) r ∧ Q r := by
  have key : ∀ n s, μ s = n → inv s → ∃ r, Tells (fun k => F k s) r ∧ Q r := by
    intro n
    induction n using Nat.strongRecOn with
    | _ n ih =>
      intro s hn hi
      rcases hstep s hi with ⟨s', ⟨K, hK⟩, hi', hlt⟩ | h
      · obtain ⟨r, ⟨L, hL⟩, hq⟩ := ih (μ s') (by omega) s' rfl hi'
        refine ⟨r, ⟨max K L + 1, fun k hk => ?_⟩, hq⟩
        obtain ⟨k, rfl⟩ : ∃ m, k = m + 1 := ⟨k - 1, by omega⟩
        show F (k + 1) s = some r
        rw [hK k (by omega)]
        exact hL k (by omega)
      · exact h
  exact fun s hi => key _ s rfl hi
/-- A loop that counts up to n. -/
theorem for_rule {σ α : Type} (F : Nat → Nat → σ → Option α) (n : Nat) (inv : Nat → σ → Prop) (Q : α → Prop)
    (hstep : ∀ i s, i < n → inv i s → (∃ s', (∃ K, ∀ k, K ≤ k → F (k + 1) i s = F k (i + 1) s') ∧ inv (i + 1) s') ∨ (∃ r, Tells (fun k => F k i s) r ∧ Q r))
    (hend : ∀ s, inv n s → ∃ r, Tells (fun k => F k n s) r ∧ Q r) : ∀ i s, i ≤ n → inv i s → ∃ r, Tells (fun k => F k i s) r ∧ Q r := by
  intro i s hi h
  exact while_rule (σ := Nat × σ) (fun k s => F k s.1 s.2) (fun s => s.1 ≤ n ∧ inv s.1 s.2) (fun s => n - s.1) Q
    (fun s hs => by
      by_cases hlt : s.1 < n
      · rcases hstep s.1 s.2 hlt hs.2 with ⟨s', hK, hi'⟩ | h
        · exact .inl ⟨(s.1 + 1, s'), hK, ⟨by omega, hi'⟩, by omega⟩
        · exact .inr h
      · have e : s.1 = n := by omega
        obtain ⟨r, hr⟩ := hend s.2 (e ▸ hs.2)
        exact .inr ⟨r, by rw [e]; exact hr⟩) (i, s) ⟨hi, h⟩
end Go.Proofs.Ytoeddkfbhjmbmaa.PB
