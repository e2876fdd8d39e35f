/- Plain facts on the words of the printed texts; no condition but what each names. -/
import Derived.Test.YtidoghpbeilipaaPB0
namespace Go.Proofs.Ytidoghpbeilipaa.PB
open Go.RowKit Go.Proofs.YtidoghpbeilipaaW.PrintWords Go.Proofs.YtidoghpbeilipaaW.PrintLast Go.Proofs.YtidoghpbeilipaaW.PrintMore
theorem w64 {x : Int} (h1 : -9223372036854775808 ≤ x) (h2 : x ≤ 9223372036854775807) : wrap64 x = x := by
  unfold wrap64
  omega

theorem rd_at (l : List Int) (i : Nat) (h : i < l.length) : rd l (i : Int) = l[i] := by
  unfold rd
  simp [List.getD, h]

theorem take_set_succ {α : Type} (l : List α) (i : Nat) (v : α) (h : i < l.length) : (l.set i v).take (i + 1) = l.take i ++ [v] := by
  rw [List.take_succ_eq_append_getElem (by simpa using h), List.take_set, List.set_eq_of_length_le (by simp; omega)]
  simp
theorem rd_nat (l : List Int) (i : Nat) : rd l (i : Int) = l.getD i 0 := by
  unfold rd
  rw [Int.toNat_natCast]
/-- From some number of rounds on it tells r. -/
def Tells {α : Type} (g : Nat → Option α) (r : α) : Prop := ∃ K, ∀ k, K ≤ k → g k = some r
theorem Tells.now {α : Type} {g : Nat → Option α} {r : α} (h : ∀ k, g k = some r) : Tells g r := ⟨0, fun k _ => h k⟩
theorem Tells.step {α : Type} {g f : Nat → Option α} {r : α} (h : ∀ k, g (k + 1) = f k) (hf : Tells f r) : Tells g r := by
  obtain ⟨K, hK⟩ := hf
  refine ⟨K + 1, fun k hk => ?_⟩
  obtain ⟨k, rfl⟩ : ∃ m, k = m + 1 := ⟨k - 1, by omega⟩
  rw [h]
  exact hK k (by omega)
theorem Tells.bind {α β : Type} {g : Nat → Option α} {f : Nat → α → Option β} {a : α} {r : β} (hg : Tells g a) (hf : Tells (fun k => f k a) r) : Tells (fun k => (g k).bind (f k)) r := by
  obtain ⟨K, hK⟩ := hg
  obtain ⟨L, hL⟩ := hf
  exact ⟨max K L, fun k hk => by show (g k).bind (f k) = some r; rw [hK k (by omega), Option.bind_some]; exact hL k (by omega)⟩
theorem Tells.at_ {α : Type} {g : Nat → Option α} {r : α} (h : Tells g r) : ∃ k, g k = some r := by
  obtain ⟨K, hK⟩ := h
  exact ⟨K, hK K (Nat.le_refl _)⟩
theorem Tells.congr {α : Type} {g f : Nat → Option α} {r : α} (h : ∀ k, g k = f k) (hf : Tells f r) : Tells g r := by
  obtain ⟨K, hK⟩ := hf
  exact ⟨K, fun k hk => (h k).trans (hK k hk)⟩
end Go.Proofs.Ytidoghpbeilipaa.PB
