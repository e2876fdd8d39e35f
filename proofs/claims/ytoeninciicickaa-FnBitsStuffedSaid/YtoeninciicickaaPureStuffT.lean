/- Stuffed bits: what the printed functions tell; no condition but lengths. -/
import Derived.Test.YtoeninciicickaaPureStuff
import Derived.Test.YtoeninciicickaaPureAll
namespace Go.Proofs.Ytoeninciicickaa.PA
open Go Go.RowKit Go.Proofs.YtoeninciicickaaW.PrintWords Go.Proofs.YtoeninciicickaaW.PrintLast Go.Proofs.YtoeninciicickaaW.PrintMore
set_option linter.unusedVariables false
theorem bits_at {l : List Int} (h : isBits l) {i : Nat} (hi : i < l.length) : l[i] = 0 ∨ l[i] = 1 := h _ (List.getElem_mem hi)
theorem stuffed_l0 (l : List Int) (hb : isBits l) (hl : l.length ≤ 1000000) (d : Nat) : ∀ (i n : Nat) (out : List Int), i ≤ l.length → l.length - i = d → n ≤ 4 → out.length ≤ 2 * i →
    Tells (fun k => impl_stuffed.l0 k out (n : Int) l (l.length : Int) (i : Int)) (out ++ stf n (l.drop i)) ∧ Tells (fun k => spec_frStuff.l0 k out (n : Int) l (l.length : Int) (i : Int)) (out ++ stf n (l.drop i)) := by
  induction d with
  | zero =>
    intro i n out h1 hd hn ho
    rw [List.drop_of_length_le (by omega)]
    constructor <;> refine Tells.succ (Tells.now fun k => ?_)
    · simp only [impl_stuffed.l0, stf, List.append_nil]
      rw [if_neg (by omega)]
    · simp only [spec_frStuff.l0, stf, List.append_nil]
      rw [if_neg (by omega)]
  | succ d ih =>
    intro i n out h1 hd hn ho
    have hin : i < l.length := by omega
    have h0 := ih (i + 1) 0 (out ++ [0]) (by omega) (by omega) (by omega) (by simp; omega)
    have h5 := ih (i + 1) 0 (out ++ [1] ++ [0]) (by omega) (by omega) (by omega) (by simp; omega)
    rw [List.drop_eq_getElem_cons hin]
    have hx := bits_at hb hin
    generalize hxe : l[i] = x at hx
    have hrd := rd_at l i hin
    rw [hxe] at hrd
    rcases hx with rfl | rfl
    · simp only [stf, if_true]
      rw [show out ++ 0 :: stf 0 (l.drop (i + 1)) = out ++ [0] ++ stf 0 (l.drop (i + 1)) by simp]
      constructor
      · refine Tells.step (fun k => ?_) h0.1
        simp only [impl_stuffed.l0, hrd, Option.bind_some, if_true]
        rw [if_pos (by omega), if_pos (by omega), if_pos (by omega), if_pos (by omega), if_neg (by omega), w64 (x := (i : Int) + 1) (by omega) (by omega)]
        rfl
      · refine Tells.step (fun k => ?_) h0.2
        simp only [spec_frStuff.l0, hrd, Option.bind_some, Int.mul_zero]
        rw [if_pos (by omega), if_pos (by omega), if_pos (by omega), if_pos (by omega), w64 (x := (0 : Int)) (by omega) (by omega), if_neg (by omega), w64 (x := (i : Int) + 1) (by omega) (by omega)]
        rfl
    · simp only [stf, show ¬ ((1 : Int) = 0) from by omega, if_false]
      by_cases c : n = 4
      · subst c
        simp only [if_true]
        rw [show out ++ 1 :: 0 :: stf 0 (l.drop (i + 1)) = out ++ [1] ++ [0] ++ stf 0 (l.drop (i + 1)) by simp]
        constructor
        · refine Tells.step (fun k => ?_) h5.1
          simp only [impl_stuffed.l0, hrd, Option.bind_some]
          rw [if_pos (by omega), if_pos (by omega), if_pos (by omega), if_pos (by omega), if_neg (by omega), w64 (x := ((4 : Nat) : Int) + 1) (by omega) (by omega), if_pos (by omega), if_pos (by simp; omega), w64 (x := (i : Int) + 1) (by omega) (by omega)]
          rfl
        · refine Tells.step (fun k => ?_) h5.2
          simp only [spec_frStuff.l0, hrd, Option.bind_some, Int.mul_one]
          rw [if_pos (by omega), if_pos (by omega), if_pos (by omega), if_pos (by omega), w64 (x := ((4 : Nat) : Int) + 1) (by omega) (by omega), w64 (x := ((4 : Nat) : Int) + 1) (by omega) (by omega), if_pos (by omega), if_pos (by simp; omega), w64 (x := (i : Int) + 1) (by omega) (by omega)]
          rfl
      · simp only [if_neg c]
        have h6 := ih (i + 1) (n + 1) (out ++ [1]) (by omega) (by omega) (by omega) (by simp; omega)
        rw [show ((n + 1 : Nat) : Int) = (n : Int) + 1 from by omega] at h6
        rw [show out ++ 1 :: stf (n + 1) (l.drop (i + 1)) = out ++ [1] ++ stf (n + 1) (l.drop (i + 1)) by simp]
        constructor
        · obtain ⟨N, hN⟩ : ∃ N : Int, N = (n : Int) := ⟨_, rfl⟩
          have h7 := h6.1
          rw [← hN] at h7 ⊢
          refine Tells.step (fun k => ?_) h7
          simp only [impl_stuffed.l0, hrd, Option.bind_some]
          rw [if_pos (by omega), if_pos (by omega), if_pos (by omega), if_pos (by omega), if_neg (by omega), w64 (x := N + 1) (by omega) (by omega), if_neg (by omega), w64 (x := (i : Int) + 1) (by omega) (by omega)]
          rfl
        · obtain ⟨N, hN⟩ : ∃ N : Int, N = (n : Int) := ⟨_, rfl⟩
          have h7 := h6.2
          rw [← hN] at h7 ⊢
          refine Tells.step (fun k => ?_) h7
          simp only [spec_frStuff.l0, hrd, Option.bind_some, Int.mul_one]
          rw [if_pos (by omega), if_pos (by omega), if_pos (by omega), if_pos (by omega), w64 (x := N + 1) (by omega) (by omega), w64 (x := N + 1) (by omega) (by omega), if_neg (by omega), w64 (x := (i : Int) + 1) (by omega) (by omega)]
          rfl
theorem stuffed_tells (l : List Int) (hb : isBits l) (hl : l.length ≤ 1000000) : Tells (fun k => impl_stuffed.f k l) (stf 0 l) ∧ Tells (fun k => spec_frStuff.f k l) (stf 0 l) := by
  have h := stuffed_l0 l hb hl l.length 0 0 [] (by omega) (by omega) (by omega) (by simp)
  simp only [List.drop_zero, List.nil_append] at h
  exact h
def allBits (l : List Int) : Bool := l.all fun x => inB 0 1 x
theorem allBits_is (l : List Int) : allBits l = true ↔ isBits l := by
  simp only [allBits, List.all_eq_true, inB, decide_eq_true_eq, isBits]
  exact ⟨fun h x hx => by have := h x hx; omega, fun h x hx => by have := h x hx; omega⟩
def areBitsB (l : List Int) : Bool := decide (l.length ≤ 400) && allBits l
theorem areBits_tells (l : List Int) (hl : l.length ≤ 1000000) : impl_areBits.f l = some (areBitsB l) ∧ Tells (fun k => spec_frAre.f k l) (areBitsB l) := by
  unfold areBitsB
  by_cases c : l.length ≤ 400
  · simp only [impl_areBits.f, spec_frAre.f, impl_allWithin.f, show (l.length : Int) ≤ 400 from by omega, if_true, c, decide_true, Bool.true_and]
    refine ⟨by rw [if_pos (by omega)]; rfl, ?_⟩
    exact Tells.bind (l1All_tells 0 1 l (by omega)) (Tells.now fun _ => rfl)
  · simp only [impl_areBits.f, spec_frAre.f, show ¬ (l.length : Int) ≤ 400 from by omega, if_false, c, decide_false, Bool.false_and]
    exact ⟨trivial, Tells.now fun _ => rfl⟩
theorem areBits_of {l : List Int} (h : areBitsB l = true) : l.length ≤ 400 ∧ isBits l := by
  simp only [areBitsB, Bool.and_eq_true, decide_eq_true_eq, allBits_is] at h
  exact h
theorem areBits_to {l : List Int} (h1 : l.length ≤ 400) (h2 : isBits l) : areBitsB l = true := by
  simp only [areBitsB, Bool.and_eq_true, decide_eq_true_eq, allBits_is]
  exact ⟨h1, h2⟩
/-- What StuffBits tells. -/
def stuffR (l : List Int) : List Int × Bool := if areBitsB l = true then (if (stf 0 l).length ≤ 400 then (stf 0 l, true) else ([], false)) else ([], false)
theorem stuffBits_tells (l : List Int) (hl : l.length ≤ 1000000) : Tells (fun k => impl_StuffBits.f k l) (stuffR l) ∧ Tells (fun k => spec_StuffBits.f k l) (stuffR l) := by
  obtain ⟨h1, h2⟩ := areBits_tells l hl
  unfold stuffR
  cases c : areBitsB l
  · rw [c] at h1 h2
    constructor
    · simp only [impl_StuffBits.f, h1, Option.bind_some]
      exact Tells.now fun _ => rfl
    · simp only [spec_StuffBits.f]
      exact Tells.bind h2 (Tells.now fun _ => rfl)
  · rw [c] at h1 h2
    obtain ⟨g1, g2⟩ := stuffed_tells l (areBits_of c).2 hl
    constructor
    · simp only [impl_StuffBits.f, h1, Option.bind_some, if_true]
      refine Tells.bind g1 (Tells.now fun _ => ?_)
      by_cases c2 : (stf 0 l).length ≤ 400
      · rw [if_neg (by omega), if_pos c2]
      · rw [if_pos (by omega), if_neg c2]
    · simp only [spec_StuffBits.f]
      refine Tells.bind h2 ?_
      simp only [if_true]
      refine Tells.bind g2 (Tells.now fun _ => ?_)
      by_cases c2 : (stf 0 l).length ≤ 400
      · rw [if_neg (by omega), if_pos c2]
      · rw [if_pos (by omega), if_neg c2]
theorem equal_l0 (a b : List Int) (he : a.length = b.length) (hl : a.length ≤ 1000000000) (d : Nat) : ∀ i : Nat, i ≤ a.length → a.length - i = d →
    Tells (fun k => slices_Equal_int_int.l0 k a b (a.length : Int) (i : Int)) (decide (a.drop i = b.drop i)) ∧ Tells (fun k => laws_zSame.l0 k a b (a.length : Int) (i : Int)) (decide (a.drop i = b.drop i)) := by
  induction d with
  | zero =>
    intro i h1 hd
    rw [List.drop_of_length_le (by omega), List.drop_of_length_le (by omega)]
    constructor <;> refine Tells.succ (Tells.now fun k => ?_)
    · simp only [slices_Equal_int_int.l0]
      rw [if_neg (by omega)]
      rfl
    · simp only [laws_zSame.l0]
      rw [if_neg (by omega)]
      rfl
  | succ d ih =>
    intro i h1 hd
    have hia : i < a.length := by omega
    have hib : i < b.length := by omega
    obtain ⟨h2, h3⟩ := ih (i + 1) (by omega) (by omega)
    have hda := List.drop_eq_getElem_cons hia
    have hdb := List.drop_eq_getElem_cons hib
    by_cases c : a[i] = b[i]
    · rw [show decide (a.drop i = b.drop i) = decide (a.drop (i + 1) = b.drop (i + 1)) by rw [hda, hdb, c]; simp only [List.cons.injEq, true_and]]
      constructor
      · refine Tells.step (fun k => ?_) h2
        simp only [slices_Equal_int_int.l0, rd_at a i hia, rd_at b i hib]
        rw [if_pos (by omega), if_pos (by omega), if_pos (by omega), if_pos (by omega), if_pos c, w64 (x := (i : Int) + 1) (by omega) (by omega)]
        rfl
      · refine Tells.step (fun k => ?_) h3
        simp only [laws_zSame.l0, rd_at a i hia, rd_at b i hib]
        rw [if_pos (by omega), if_pos (by omega), if_pos (by omega), if_pos (by omega), if_pos c, w64 (x := (i : Int) + 1) (by omega) (by omega)]
        rfl
    · rw [show decide (a.drop i = b.drop i) = false by rw [hda, hdb]; simp only [List.cons.injEq, c, false_and, decide_false]]
      constructor <;> refine Tells.succ (Tells.now fun k => ?_)
      · simp only [slices_Equal_int_int.l0, rd_at a i hia, rd_at b i hib]
        rw [if_pos (by omega), if_pos (by omega), if_pos (by omega), if_pos (by omega), if_neg c]
      · simp only [laws_zSame.l0, rd_at a i hia, rd_at b i hib]
        rw [if_pos (by omega), if_pos (by omega), if_pos (by omega), if_pos (by omega), if_neg c]
theorem equal_tells (a b : List Int) (hl : a.length ≤ 1000000000) : Tells (fun k => slices_Equal_int_int.f k a b) (decide (a = b)) ∧ Tells (fun k => laws_zSame.f k a b) (decide (a = b)) := by
  by_cases he : a.length = b.length
  · have h := equal_l0 a b he hl a.length 0 (by omega) (by omega)
    simp only [List.drop_zero] at h
    simp only [slices_Equal_int_int.f, laws_zSame.f, show (a.length : Int) = (b.length : Int) from by omega, if_true]
    rw [show (a.length : Int) = (b.length : Int) from by omega] at h
    exact h
  · have hne : a ≠ b := fun h => he (by rw [h])
    simp only [slices_Equal_int_int.f, laws_zSame.f, show ¬ (a.length : Int) = (b.length : Int) from by omega, if_false, hne, decide_false]
    exact ⟨Tells.now fun _ => rfl, Tells.now fun _ => rfl⟩
theorem same_self (a : List Int) (hl : a.length ≤ 1000000000) : Tells (fun k => laws_zSame.f k a a) true := by
  have h := (equal_tells a a hl).2
  simpa using h
/-- What UnstuffBits tells. -/
def plainR (n : Nat) (out l : List Int) : List Int × Bool := match pln n l with | none => ([], false) | some y => (out ++ y, true)
def unstuffR (l : List Int) : List Int × Bool := if areBitsB l = true then plainR 0 [] l else ([], false)
theorem plain_l0 (l : List Int) (hb : isBits l) (hl : l.length ≤ 1000000) (d : Nat) : ∀ (i n : Nat) (out : List Int), i ≤ l.length → l.length - i = d → n ≤ 5 → out.length ≤ i →
    Tells (fun k => spec_frPlain.l0 k out (n : Int) l (l.length : Int) (i : Int)) (plainR n out (l.drop i)) := by
  induction d with
  | zero =>
    intro i n out h1 hd hn ho
    rw [List.drop_of_length_le (by omega)]
    refine Tells.succ (Tells.now fun k => ?_)
    simp only [spec_frPlain.l0, plainR, pln]
    rw [if_neg (by omega)]
    by_cases c : n = 5
    · rw [if_pos (by omega), if_pos c]
    · rw [if_neg (by omega), if_neg c]
      simp
  | succ d ih =>
    intro i n out h1 hd hn ho
    have hin : i < l.length := by omega
    have h0 := ih (i + 1) 0 (out ++ [0]) (by omega) (by omega) (by omega) (by simp; omega)
    have h5 := ih (i + 1) 0 out (by omega) (by omega) (by omega) (by omega)
    rw [List.drop_eq_getElem_cons hin]
    have hx := bits_at hb hin
    generalize hxe : l[i] = x at hx
    have hrd := rd_at l i hin
    rw [hxe] at hrd
    by_cases c : n = 5
    · subst c
      rcases hx with rfl | rfl
      · rw [show plainR 5 out (0 :: l.drop (i + 1)) = plainR 0 out (l.drop (i + 1)) from rfl]
        refine Tells.step (fun k => ?_) h5
        simp only [spec_frPlain.l0, hrd]
        rw [if_pos (by omega), if_pos (by omega), if_pos (by omega), if_pos (by omega), if_neg (by omega), w64 (x := (i : Int) + 1) (by omega) (by omega)]
        rfl
      · rw [show plainR 5 out (1 :: l.drop (i + 1)) = ([], false) from rfl]
        refine Tells.succ (Tells.now fun k => ?_)
        simp only [spec_frPlain.l0, hrd]
        rw [if_pos (by omega), if_pos (by omega), if_pos (by omega), if_pos (by omega), if_pos (by first | trivial | omega)]
    · rcases hx with rfl | rfl
      · rw [show plainR n out (0 :: l.drop (i + 1)) = plainR 0 (out ++ [0]) (l.drop (i + 1)) from by
          simp only [plainR, pln, if_neg c, if_true]
          cases pln 0 (l.drop (i + 1)) <;> simp]
        refine Tells.step (fun k => ?_) h0
        simp only [spec_frPlain.l0, hrd, Int.mul_zero]
        rw [if_pos (by omega), if_pos (by omega), if_pos (by omega), if_neg (by omega), if_pos (by omega), w64 (x := (0 : Int)) (by omega) (by omega), w64 (x := (i : Int) + 1) (by omega) (by omega)]
        rfl
      · have h6 := ih (i + 1) (n + 1) (out ++ [1]) (by omega) (by omega) (by omega) (by simp; omega)
        rw [show ((n + 1 : Nat) : Int) = (n : Int) + 1 from by omega] at h6
        rw [show plainR n out (1 :: l.drop (i + 1)) = plainR (n + 1) (out ++ [1]) (l.drop (i + 1)) from by
          simp only [plainR, pln, if_neg c, show ¬ ((1 : Int) = 0) from by omega, if_false]
          cases pln (n + 1) (l.drop (i + 1)) <;> simp]
        refine Tells.step (fun k => ?_) h6
        simp only [spec_frPlain.l0, hrd, Int.mul_one]
        rw [if_pos (by omega), if_pos (by omega), if_pos (by omega), if_neg (by omega), if_pos (by omega), w64 (x := (n : Int) + 1) (by omega) (by omega), w64 (x := (n : Int) + 1) (by omega) (by omega), w64 (x := (i : Int) + 1) (by omega) (by omega)]
        rfl
theorem unstuffed_l0 (l : List Int) (hb : isBits l) (hl : l.length ≤ 100000) (d : Nat) : ∀ (i n : Nat) (out : List Int), i ≤ l.length → l.length - i = d → n ≤ 5 → out.length ≤ i → isBits out →
    Tells (fun k => impl_unstuffed.l0 k l out (n : Int) l (l.length : Int) (i : Int)) (if stf 0 (out ++ unst n (l.drop i)) = l then (out ++ unst n (l.drop i), true) else ([], false)) := by
  induction d with
  | zero =>
    intro i n out h1 hd hn ho hob
    rw [List.drop_of_length_le (by omega)]
    have hs := stf_len out 0
    simp only [unst, List.append_nil]
    have e (k : Nat) : impl_unstuffed.l0 (k + 1) l out (n : Int) l (l.length : Int) (i : Int) = ((impl_stuffed.f k out).bind fun t199 => ((slices_Equal_int_int.f k t199 l).bind fun t202 => (if t202 = true then (some (out, true)) else (some (([] : List Int), false))))) := by
      simp only [impl_unstuffed.l0]
      rw [if_neg (by omega)]
    refine Tells.succ ?_
    simp only [e]
    refine Tells.bind (stuffed_tells out hob (by omega)).1 ?_
    refine Tells.bind (equal_tells (stf 0 out) l (by omega)).1 (Tells.now fun _ => ?_)
    by_cases c : stf 0 out = l
    · simp [c]
    · simp [c]
  | succ d ih =>
    intro i n out h1 hd hn ho hob
    have hin : i < l.length := by omega
    have h0 := ih (i + 1) 0 (out ++ [0]) (by omega) (by omega) (by omega) (by simp; omega) (fun x hx => by rcases List.mem_append.1 hx with hx | hx; exact hob x hx; simp at hx; omega)
    have h5 := ih (i + 1) 0 out (by omega) (by omega) (by omega) (by omega) hob
    rw [List.drop_eq_getElem_cons hin]
    have hx := bits_at hb hin
    generalize hxe : l[i] = x at hx
    have hrd := rd_at l i hin
    rw [hxe] at hrd
    by_cases c : n = 5
    · subst c
      rw [show unst 5 (x :: l.drop (i + 1)) = unst 0 (l.drop (i + 1)) from rfl]
      refine Tells.step (fun k => ?_) h5
      simp only [impl_unstuffed.l0, hrd]
      rw [if_pos (by omega), if_pos (by omega), if_pos (by omega), if_pos (by omega), w64 (x := (i : Int) + 1) (by omega) (by omega)]
      rfl
    · rcases hx with rfl | rfl
      · rw [show out ++ unst n (0 :: l.drop (i + 1)) = (out ++ [0]) ++ unst 0 (l.drop (i + 1)) from by simp [unst, if_neg c]]
        refine Tells.step (fun k => ?_) h0
        simp only [impl_unstuffed.l0, hrd, Option.bind_some, if_true]
        rw [if_pos (by omega), if_pos (by omega), if_pos (by omega), if_neg (by omega), if_pos (by omega), w64 (x := (i : Int) + 1) (by omega) (by omega)]
        rfl
      · have h6 := ih (i + 1) (n + 1) (out ++ [1]) (by omega) (by omega) (by omega) (by simp; omega) (fun x hx => by rcases List.mem_append.1 hx with hx | hx; exact hob x hx; simp at hx; omega)
        rw [show ((n + 1 : Nat) : Int) = (n : Int) + 1 from by omega] at h6
        rw [show out ++ unst n (1 :: l.drop (i + 1)) = (out ++ [1]) ++ unst (n + 1) (l.drop (i + 1)) from by simp [unst, if_neg c]]
        refine Tells.step (fun k => ?_) h6
        simp only [impl_unstuffed.l0, hrd, Option.bind_some]
        rw [if_pos (by omega), if_pos (by omega), if_pos (by omega), if_neg (by omega), if_pos (by omega), if_neg (by omega), w64 (x := (n : Int) + 1) (by omega) (by omega), w64 (x := (i : Int) + 1) (by omega) (by omega)]
        rfl
theorem unstuffBits_tells (l : List Int) (hl : l.length ≤ 100000) : Tells (fun k => impl_UnstuffBits.f k l) (unstuffR l) ∧ Tells (fun k => spec_UnstuffBits.f k l) (unstuffR l) := by
  obtain ⟨h1, h2⟩ := areBits_tells l (by omega)
  unfold unstuffR
  cases c : areBitsB l
  · rw [c] at h1 h2
    constructor
    · simp only [impl_UnstuffBits.f, h1, Option.bind_some]
      exact Tells.now fun _ => rfl
    · simp only [spec_UnstuffBits.f]
      exact Tells.bind h2 (Tells.now fun _ => rfl)
  · rw [c] at h1 h2
    have hb := (areBits_of c).2
    have g1 := unstuffed_l0 l hb hl l.length 0 0 [] (by omega) (by omega) (by omega) (by simp) (fun x hx => by simp at hx)
    have g2 := plain_l0 l hb (by omega) l.length 0 0 [] (by omega) (by omega) (by omega) (by simp)
    simp only [List.drop_zero, List.nil_append] at g1 g2
    have e : plainR 0 [] l = if stf 0 (unst 0 l) = l then (unst 0 l, true) else ([], false) := by
      simp only [plainR, pln_unst l.length l (Nat.le_refl _) hb 0 (by omega)]
      by_cases c2 : stf 0 (unst 0 l) = l <;> simp [c2]
    constructor
    · simp only [impl_UnstuffBits.f, h1, Option.bind_some, if_true]
      rw [e]
      exact Tells.bind g1 (Tells.now fun _ => rfl)
    · simp only [spec_UnstuffBits.f]
      refine Tells.bind h2 ?_
      simp only [if_true]
      exact Tells.bind g2 (Tells.now fun _ => rfl)
theorem zSum_l0 (l : List Int) (hb : isBits l) (hl : l.length ≤ 1000000) (d : Nat) : ∀ (i : Nat) (a : Int), i ≤ l.length → l.length - i = d → 0 ≤ a → a ≤ i →
    Tells (fun k => laws_zSum.l0 k a l (l.length : Int) (i : Int)) (a + (l.drop i).sum) := by
  induction d with
  | zero =>
    intro i a h1 hd h0 ha
    rw [List.drop_of_length_le (by omega)]
    refine Tells.succ (Tells.now fun k => ?_)
    simp only [laws_zSum.l0]
    rw [if_neg (by omega)]
    simp
  | succ d ih =>
    intro i a h1 hd h0 ha
    have hin : i < l.length := by omega
    have hx := bits_at hb hin
    rw [List.drop_eq_getElem_cons hin, List.sum_cons, ← Int.add_assoc]
    refine Tells.step (fun k => ?_) (ih (i + 1) (a + l[i]) (by omega) (by omega) (by omega) (by omega))
    simp only [laws_zSum.l0, rd_at l i hin]
    rw [if_pos (by omega), if_pos (by omega), if_pos (by omega), w64 (x := a + l[i]) (by omega) (by omega), w64 (x := (i : Int) + 1) (by omega) (by omega)]
    rfl
theorem zSum_tells (l : List Int) (hb : isBits l) (hl : l.length ≤ 1000000) : Tells (fun k => laws_zSum.f k l) l.sum := by
  have h := zSum_l0 l hb hl l.length 0 0 (by omega) (by omega) (by omega) (by omega)
  simp only [List.drop_zero, Int.zero_add] at h
  exact h
/-- What the law wants of stuffed bits. -/
theorem stuff_back {l : List Int} {r : List Int} (h : stuffR l = (r, true)) : unstuffR r = (l, true) ∧ isBits r ∧ isBits l ∧ r.length ≤ 400 ∧ r.sum = l.sum ∧ rowOk 0 r = true := by
  unfold stuffR at h
  cases c : areBitsB l
  · rw [c] at h; simp at h
  · rw [c] at h
    simp only [if_true] at h
    by_cases c2 : (stf 0 l).length ≤ 400
    · rw [if_pos c2] at h
      obtain rfl : stf 0 l = r := by simpa using congrArg Prod.fst h
      have hb := (areBits_of c).2
      have hsb := stf_bits l hb 0
      refine ⟨?_, hsb, hb, c2, stf_sum l hb 0, by simpa using stf_row l hb 0 (by omega)⟩
      rw [unstuffR, areBits_to c2 hsb, plainR, pln_stf l hb 0 (by omega)]
      simp
    · rw [if_neg c2] at h; simp at h
theorem unstuff_back {l : List Int} {r : List Int} (h : unstuffR l = (r, true)) : stuffR r = (l, true) ∧ r.length ≤ 400 := by
  unfold unstuffR at h
  cases c : areBitsB l
  · rw [c] at h; simp at h
  · rw [c] at h
    obtain ⟨hl, hb⟩ := areBits_of c
    simp only [if_true, plainR, pln_unst l.length l (Nat.le_refl _) hb 0 (by omega)] at h
    by_cases c2 : stf 0 (unst 0 l) = l
    · rw [if_pos c2] at h
      obtain rfl : unst 0 l = r := by simpa using congrArg Prod.fst h
      obtain ⟨g1, g2⟩ := unst_bits l hb 0
      refine ⟨?_, by omega⟩
      rw [stuffR, areBits_to (by omega) g1, c2, if_pos rfl, if_pos hl]
    · rw [if_neg c2] at h; simp at h
end Go.Proofs.Ytoeninciicickaa.PA
