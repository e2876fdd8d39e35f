/- Lists of messages are copied as they are and are the same as themselves; no condition but lengths. -/
import Derived.Test.YtkfghiofmamdnaaPure0
import Derived.Test.YtkfghiofmamdnaaPA8
import Derived.Test.YtkfghiofmamdnaaPA15
import Derived.Test.YtkfghiofmamdnaaPA1
import Derived.Test.YtkfghiofmamdnaaPA7
namespace Go.Proofs.Ytkfghiofmamdnaa.PA
open Go.RowKit Go.Proofs.YtkfghiofmamdnaaW.PrintWords Go.Proofs.YtkfghiofmamdnaaW.PrintLast Go.Proofs.YtkfghiofmamdnaaW.PrintMore
def convM (m : S70) : S60 := ⟨m.f0, m.f1, m.f2⟩
theorem toMessageS_l0 (l : List S70) (hl : l.length < 4611686018427387904) (d : Nat) : ∀ (k i : Nat) (x : List S60), x.length = l.length → i ≤ l.length → l.length - i = d → d < k → x.take i = (l.take i).map convM →
    laws_toMessageS.l0 k l x (i : Int) = some (l.map convM) := by
  induction d with
  | zero =>
    intro k i x hx h1 hd hk he
    obtain ⟨k, rfl⟩ : ∃ m, k = m + 1 := ⟨k - 1, by omega⟩
    simp only [laws_toMessageS.l0]
    rw [if_neg (by omega)]
    rw [List.take_of_length_le (by omega), List.take_of_length_le (by omega)] at he
    rw [he]
  | succ d ih =>
    intro k i x hx h1 hd hk he
    obtain ⟨k, rfl⟩ : ∃ m, k = m + 1 := ⟨k - 1, by omega⟩
    have hi : i < l.length := by omega
    simp only [laws_toMessageS.l0, laws_toMessage.f, Option.bind_some]
    rw [if_pos (by omega), if_pos (by omega), if_pos (by omega), w64 (by omega) (by omega), Int.toNat_natCast]
    refine ih k (i + 1) _ (by simpa using hx) (by omega) (by omega) (by omega) ?_
    rw [take_set_succ x i _ (by omega), he, List.take_succ_eq_append_getElem hi, List.map_append]
    simp [convM, rd_T70, List.getD_eq_getElem?_getD, List.getElem?_eq_getElem hi]
theorem toMessageS_tells (l : List S70) (hl : l.length ≤ 5864062014805) : Tells (fun k => laws_toMessageS.f k l) (l.map convM) := by
  refine ⟨l.length + 1, fun k hk => ?_⟩
  show laws_toMessageS.f k l = _
  unfold laws_toMessageS.f
  rw [if_pos (by omega), if_pos (by omega)]
  exact toMessageS_l0 l (by omega) l.length k 0 _ (by simp) (by omega) (by omega) (by omega) (by simp)
theorem eqMessageS_l0 (l : List S60) (hl : l.length < 4611686018427387904) (d : Nat) : ∀ (k i : Nat), i ≤ l.length → l.length - i = d → d < k → laws_eqMessageS.l0 k l l (i : Int) = some true := by
  induction d with
  | zero =>
    intro k i h1 hd hk
    obtain ⟨k, rfl⟩ : ∃ m, k = m + 1 := ⟨k - 1, by omega⟩
    simp only [laws_eqMessageS.l0]
    rw [if_neg (by omega)]
  | succ d ih =>
    intro k i h1 hd hk
    obtain ⟨k, rfl⟩ : ∃ m, k = m + 1 := ⟨k - 1, by omega⟩
    simp only [laws_eqMessageS.l0, laws_eqMessage.f, if_true, Option.bind_some]
    rw [if_pos (by omega), if_pos (by omega), if_pos (by omega), w64 (by omega) (by omega)]
    exact ih k (i + 1) (by omega) (by omega) (by omega)
theorem eqMessageS_tells (l : List S60) (hl : l.length < 4611686018427387904) : Tells (fun k => laws_eqMessageS.f k l l) true := by
  refine ⟨l.length + 1, fun k hk => ?_⟩
  show laws_eqMessageS.f k l l = some true
  unfold laws_eqMessageS.f
  rw [if_pos rfl]
  exact eqMessageS_l0 l hl l.length k 0 (by omega) (by omega) (by omega)
end Go.Proofs.Ytkfghiofmamdnaa.PA
