/- Bits of bytes and bytes of bits: the program and the reference tell the same, and they come back; no condition but lengths. -/
import Derived.Test.YtoeninciicickaaPureStuffT
import Derived.Test.YtoeninciicickaaPA27
import Derived.Test.YtoeninciicickaaPA29
import Derived.Test.YtoeninciicickaaPA31
import Derived.Test.YtoeninciicickaaPA33
namespace Go.Proofs.Ytoeninciicickaa.PA
open Go Go.RowKit Go.Proofs.YtoeninciicickaaW.PrintWords Go.Proofs.YtoeninciicickaaW.PrintLast Go.Proofs.YtoeninciicickaaW.PrintMore
set_option linter.unusedVariables false
def bitf (b : Int) (j : Nat) : Int := b / 2 ^ j % 2
def lowBits (b : Int) : Nat → List Int
  | 0 => []
  | j + 1 => bitf b j :: lowBits b j
def bitsL : List Int → List Int
  | [] => []
  | b :: l => lowBits b 8 ++ bitsL l
def valOf (a : Int) : List Int → Int
  | [] => a
  | x :: l => valOf (2 * a + x) l
def fromL : Nat → List Int → List Int
  | 0, _ => []
  | m + 1, x => valOf 0 (x.take 8) :: fromL m (x.drop 8)
def inBytes (l : List Int) : Prop := ∀ x ∈ l, 0 ≤ x ∧ x ≤ 255
theorem bit_and : ∀ (b : Fin 256) (j : Fin 8), Go.bits .and .i64 (shr .i64 ((b.1 : Nat) : Int) ((j.1 : Nat) : Int)) 1 = bitf ((b.1 : Nat) : Int) j.1 := by decide +kernel
theorem bit_mod : ∀ (b : Fin 256) (j : Fin 8), Int.tmod (shr .i64 ((b.1 : Nat) : Int) ((j.1 : Nat) : Int)) 2 = bitf ((b.1 : Nat) : Int) j.1 := by decide +kernel
theorem bit_is (b : Int) (h : 0 ≤ b ∧ b ≤ 255) (j : Nat) (hj : j < 8) : Go.bits .and .i64 (shr .i64 b (j : Int)) 1 = bitf b j ∧ Int.tmod (shr .i64 b (j : Int)) 2 = bitf b j := by
  obtain ⟨n, rfl⟩ : ∃ n : Nat, b = (n : Int) := ⟨b.toNat, by omega⟩
  exact ⟨bit_and ⟨n, by omega⟩ ⟨j, hj⟩, bit_mod ⟨n, by omega⟩ ⟨j, hj⟩⟩
theorem lowBits_len (b : Int) : ∀ j, (lowBits b j).length = j
  | 0 => rfl
  | j + 1 => by rw [lowBits, List.length_cons, lowBits_len b j]
theorem bitsL_len : ∀ l : List Int, (bitsL l).length = 8 * l.length
  | [] => rfl
  | b :: l => by rw [bitsL, List.length_append, lowBits_len, bitsL_len l, List.length_cons]; omega
theorem bits_l1 (l : List Int) (b : Int) (hb : 0 ≤ b ∧ b ≤ 255) (i : Int) (q : List Int) : ∀ (j : Nat) (out : List Int), j ≤ 8 → out.length ≤ 100000 - j →
    (Tells (fun k => impl_bitsOf.l0 k (out ++ lowBits b j) l (l.length : Int) (wrap64 (i + 1))) q → Tells (fun k => impl_bitsOf.l1 k out b ((j : Int) - 1) l (l.length : Int) i) q) ∧
    (Tells (fun k => spec_frBits.l0 k (out ++ lowBits b j) l (l.length : Int) (wrap64 (i + 1))) q → Tells (fun k => spec_frBits.l1 k out b ((j : Int) - 1) l (l.length : Int) i) q) := by
  intro j
  induction j with
  | zero =>
    intro out hj ho
    simp only [lowBits, List.append_nil]
    constructor
    · intro h
      refine Tells.step (fun k => ?_) h
      simp only [impl_bitsOf.l1]
      rw [if_neg (by omega)]
    · intro h
      refine Tells.step (fun k => ?_) h
      simp only [spec_frBits.l1]
      rw [if_neg (by omega)]
  | succ j ih =>
    intro out hj ho
    obtain ⟨h1, h2⟩ := ih (out ++ [bitf b j]) (by omega) (by simp; omega)
    obtain ⟨e1, e2⟩ := bit_is b hb j (by omega)
    simp only [List.append_assoc, List.singleton_append] at h1 h2
    rw [show ((j + 1 : Nat) : Int) - 1 = (j : Int) from by omega]
    obtain ⟨J, hJ⟩ : ∃ J : Int, J = (j : Int) := ⟨_, rfl⟩
    rw [← hJ] at h1 h2 e1 e2 ⊢
    constructor
    · intro h
      refine Tells.step (fun k => ?_) (h1 h)
      simp only [impl_bitsOf.l1, e1]
      rw [if_pos (by omega), if_pos (by omega), if_pos (by omega), w64 (x := J - 1) (by omega) (by omega)]
    · intro h
      refine Tells.step (fun k => ?_) (h2 h)
      simp only [spec_frBits.l1, e2]
      rw [if_pos (by omega), if_pos (by omega), if_pos (by omega), w64 (x := J - 1) (by omega) (by omega)]
theorem bitsOf_l0 (l : List Int) (hb : inBytes l) (hl : l.length ≤ 1000) (d : Nat) : ∀ (i : Nat) (out : List Int), i ≤ l.length → l.length - i = d → out.length ≤ 8 * i →
    Tells (fun k => impl_bitsOf.l0 k out l (l.length : Int) (i : Int)) (out ++ bitsL (l.drop i)) ∧ Tells (fun k => spec_frBits.l0 k out l (l.length : Int) (i : Int)) (out ++ bitsL (l.drop i)) := by
  induction d with
  | zero =>
    intro i out h1 hd ho
    rw [List.drop_of_length_le (by omega)]
    constructor <;> refine Tells.succ (Tells.now fun k => ?_)
    · simp only [impl_bitsOf.l0, bitsL, List.append_nil]
      rw [if_neg (by omega)]
    · simp only [spec_frBits.l0, bitsL, List.append_nil]
      rw [if_neg (by omega)]
  | succ d ih =>
    intro i out h1 hd ho
    have hin : i < l.length := by omega
    have h8 := lowBits_len l[i] 8
    obtain ⟨g1, g2⟩ := ih (i + 1) (out ++ lowBits l[i] 8) (by omega) (by omega) (by simp; omega)
    obtain ⟨s1, s2⟩ := bits_l1 l l[i] (hb _ (List.getElem_mem hin)) (i : Int) (out ++ lowBits l[i] 8 ++ bitsL (l.drop (i + 1))) 8 out (by omega) (by omega)
    rw [w64 (x := (i : Int) + 1) (by omega) (by omega)] at s1 s2
    rw [List.drop_eq_getElem_cons hin, bitsL, ← List.append_assoc]
    constructor
    · refine Tells.step (fun k => ?_) (s1 g1)
      simp only [impl_bitsOf.l0, rd_at l i hin]
      rw [if_pos (by omega), if_pos (by omega), if_pos (by omega)]
      rfl
    · refine Tells.step (fun k => ?_) (s2 g2)
      simp only [spec_frBits.l0, rd_at l i hin]
      rw [if_pos (by omega), if_pos (by omega), if_pos (by omega)]
      rfl
def areBytesB (l : List Int) : Bool := decide (l.length ≤ 40) && l.all fun x => inB 0 255 x
theorem areBytes_of {l : List Int} (h : areBytesB l = true) : l.length ≤ 40 ∧ inBytes l := by
  simp only [areBytesB, Bool.and_eq_true, decide_eq_true_eq, List.all_eq_true, inB] at h
  exact ⟨h.1, fun x hx => by have := h.2 x hx; omega⟩
theorem areBytes_to {l : List Int} (h1 : l.length ≤ 40) (h2 : inBytes l) : areBytesB l = true := by
  simp only [areBytesB, Bool.and_eq_true, decide_eq_true_eq, List.all_eq_true, inB]
  exact ⟨h1, fun x hx => by have := h2 x hx; omega⟩
theorem areBytes_tells (l : List Int) (hl : l.length ≤ 1000000) : impl_areBytes.f l = some (areBytesB l) ∧ Tells (fun k => spec_frBytes.f k l) (areBytesB l) := by
  unfold areBytesB
  by_cases c : l.length ≤ 40
  · simp only [impl_areBytes.f, spec_frBytes.f, impl_allWithin.f, show (l.length : Int) ≤ 40 from by omega, if_true, c, decide_true, Bool.true_and]
    refine ⟨by rw [if_pos (by omega)]; rfl, ?_⟩
    exact Tells.bind (l1All_tells 0 255 l (by omega)) (Tells.now fun _ => rfl)
  · simp only [impl_areBytes.f, spec_frBytes.f, show ¬ (l.length : Int) ≤ 40 from by omega, if_false, c, decide_false, Bool.false_and]
    exact ⟨trivial, Tells.now fun _ => rfl⟩
/-- What BitsOf tells. -/
def bitsR (l : List Int) : List Int × Bool := if areBytesB l = true then (bitsL l, true) else ([], false)
theorem bitsOf_tells (l : List Int) (hl : l.length ≤ 1000000) : Tells (fun k => impl_BitsOf.f k l) (bitsR l) ∧ Tells (fun k => spec_BitsOf.f k l) (bitsR l) := by
  obtain ⟨h1, h2⟩ := areBytes_tells l hl
  unfold bitsR
  cases c : areBytesB l
  · rw [c] at h1 h2
    constructor
    · simp only [impl_BitsOf.f, h1, Option.bind_some]
      exact Tells.now fun _ => rfl
    · simp only [spec_BitsOf.f]
      exact Tells.bind h2 (Tells.now fun _ => rfl)
  · rw [c] at h1 h2
    obtain ⟨k1, k2⟩ := areBytes_of c
    obtain ⟨g1, g2⟩ := bitsOf_l0 l k2 (by omega) l.length 0 [] (by omega) (by omega) (by simp)
    simp only [List.drop_zero, List.nil_append] at g1 g2
    constructor
    · simp only [impl_BitsOf.f, h1, Option.bind_some, if_true]
      exact Tells.bind g1 (Tells.now fun _ => rfl)
    · simp only [spec_BitsOf.f]
      refine Tells.bind h2 ?_
      simp only [if_true]
      exact Tells.bind g2 (Tells.now fun _ => rfl)
end Go.Proofs.Ytoeninciicickaa.PA
