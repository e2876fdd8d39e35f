/- What the reference draws for bits and bytes: lists of bounded length; no condition but that bytes are bytes. -/
import Derived.Test.YtoeninciicickaaPureStuffT
import Derived.Test.YtoeninciicickaaCur
import Derived.Test.YtoeninciicickaaPA5
import Derived.Test.YtoeninciicickaaPA18
import Derived.Test.YtoeninciicickaaPA25
namespace Go.Proofs.Ytoeninciicickaa.PA
open Go Go.RowKit Go.Proofs.YtoeninciicickaaW.PrintWords Go.Proofs.YtoeninciicickaaW.PrintLast Go.Proofs.YtoeninciicickaaW.PrintMore
set_option linter.unusedVariables false
theorem bits_l1_tells {s : List Int} (hs : isBytes s) (hl : s.length ≤ 4294967296) (d : Nat) : ∀ (x : List Int) (a sd : Int), x.length + d = 402 → 0 ≤ a → a ≤ 1000000000 - 4 * d →
    ∃ l a' sd', Tells (fun k => spec_l1Cur_bits.l1 k x s a sd) (l, a', sd') ∧ l.length ≤ 402 ∧ a ≤ a' ∧ a' ≤ a + 4 * d + 2 := by
  induction d with
  | zero =>
    intro x a sd hx h0 h1
    obtain ⟨p, a1, sd1, e1, hp0, hp, h2, h3⟩ := pick_tells hs hl a sd 2 h0 (by omega)
    refine ⟨x, a1, sd1, Tells.succ (Tells.now fun k => ?_), by omega, by omega, by omega⟩
    simp only [spec_l1Cur_bits.l1, e1, Option.bind_some]
    rw [w64 (x := 400 + p) (by omega) (by omega), if_neg (by omega)]
  | succ d ih =>
    intro x a sd hx h0 h1
    obtain ⟨p, a1, sd1, e1, hp0, hp, h2, h3⟩ := pick_tells hs hl a sd 2 h0 (by omega)
    by_cases c : (x.length : Int) < 400 + p
    · obtain ⟨p2, a2, sd2, e2, _, _, h4, h5⟩ := pick_tells hs hl a1 sd1 2 (by omega) (by omega)
      obtain ⟨l, a', sd', g1, g2, g3, g4⟩ := ih (x ++ [p2]) a2 sd2 (by simp; omega) (by omega) (by omega)
      refine ⟨l, a', sd', Tells.step (fun k => ?_) g1, g2, by omega, by omega⟩
      simp only [spec_l1Cur_bits.l1, e1, e2, Option.bind_some]
      rw [w64 (x := 400 + p) (by omega) (by omega), if_pos (by omega), if_pos (by omega)]
    · refine ⟨x, a1, sd1, Tells.succ (Tells.now fun k => ?_), by omega, by omega, by omega⟩
      simp only [spec_l1Cur_bits.l1, e1, Option.bind_some]
      rw [w64 (x := 400 + p) (by omega) (by omega), if_neg (by omega)]
theorem bits_l0_tells {s : List Int} (hs : isBytes s) (hl : s.length ≤ 4294967296) (n : Nat) : ∀ (x : List Int) (a sd : Int), x.length + n ≤ 80 → 0 ≤ a → a ≤ 10000000 - 2 * n →
    ∃ l a' sd', Tells (fun k => spec_l1Cur_bits.l0 k x (n : Int) s a sd) (l, a', sd') ∧ l.length ≤ 402 ∧ a ≤ a' ∧ a' ≤ a + 2 * n + 2000 := by
  induction n with
  | zero =>
    intro x a sd hx h0 h1
    obtain ⟨p, a1, sd1, e1, hp0, hp, h2, h3⟩ := pick_tells hs hl a sd 14 h0 (by omega)
    by_cases c0 : p = 0
    · by_cases cx : (x.length : Int) > 0
      · obtain ⟨q, a2, sd2, e2, hq0, hq, h4, h5⟩ := pick_tells hs hl a1 sd1 (x.length : Int) (by omega) (by omega)
        obtain ⟨v, a3, sd3, e3, _, h6, h7⟩ := among_tells hs hl a2 sd2 [(-1), 2, 4611686018427387904] (by simp) (by omega) (by omega)
        refine ⟨x.set q.toNat v, a3, sd3, Tells.succ (Tells.now fun k => ?_), by simp; omega, by omega, by omega⟩
        simp only [spec_l1Cur_bits.l0, e1, Option.bind_some]
        rw [if_neg (by omega), if_pos c0, if_pos cx]
        simp only [e2, e3, Option.bind_some]
        rw [if_pos (by omega), if_pos (by omega)]
      · refine ⟨x, a1, sd1, Tells.succ (Tells.now fun k => ?_), by omega, by omega, by omega⟩
        simp only [spec_l1Cur_bits.l0, e1, Option.bind_some]
        rw [if_neg (by omega), if_pos c0, if_neg cx]
    · by_cases c1 : p = 1
      · obtain ⟨l, a', sd', g1, g2, g3, g4⟩ := bits_l1_tells hs hl (402 - x.length) x a1 sd1 (by omega) (by omega) (by omega)
        refine ⟨l, a', sd', Tells.step (fun k => ?_) g1, g2, by omega, by omega⟩
        simp only [spec_l1Cur_bits.l0, e1, Option.bind_some]
        rw [if_neg (by omega), if_neg c0, if_pos c1]
      · refine ⟨x, a1, sd1, Tells.succ (Tells.now fun k => ?_), by omega, by omega, by omega⟩
        simp only [spec_l1Cur_bits.l0, e1, Option.bind_some]
        rw [if_neg (by omega), if_neg c0, if_neg c1]
  | succ n ih =>
    intro x a sd hx h0 h1
    obtain ⟨p, a1, sd1, e1, hp0, hp, h2, h3⟩ := pick_tells hs hl a sd 5 h0 (by omega)
    obtain ⟨v, e2⟩ : ∃ v, spec_l1Least.f 1 p = some v := by unfold spec_l1Least.f; split <;> exact ⟨_, rfl⟩
    obtain ⟨l, a', sd', g1, g2, g3, g4⟩ := ih (x ++ [v]) a1 sd1 (by simp; omega) (by omega) (by omega)
    obtain ⟨N, hN⟩ : ∃ N : Int, N = (n : Int) := ⟨_, rfl⟩
    rw [← hN] at g1
    rw [show ((n + 1 : Nat) : Int) = N + 1 from by omega]
    refine ⟨l, a', sd', Tells.step (fun k => ?_) g1, g2, by omega, by omega⟩
    simp only [spec_l1Cur_bits.l0, e1, e2, Option.bind_some]
    rw [if_pos (by omega), if_pos (by omega), w64 (x := N + 1 - 1) (by omega) (by omega), show N + 1 - 1 = N from by omega]
theorem drawBits_tells {s : List Int} (hs : isBytes s) (hl : s.length ≤ 4294967296) (a sd : Int) (h0 : 0 ≤ a) (h1 : a ≤ 100000) :
    ∃ l a' sd', Tells (fun k => spec_l1Cur_bits.f k s a sd) (l, a', sd') ∧ l.length ≤ 402 ∧ a ≤ a' ∧ a' ≤ a + 3000 := by
  obtain ⟨v, a1, sd1, e1, hv, h2, h3⟩ := among_tells hs hl a sd [0, 3, 8, 16, 40, 80] (by simp) h0 (by omega)
  have hv2 : 0 ≤ v ∧ v ≤ 80 := by
    simp only [List.mem_cons, List.not_mem_nil, or_false] at hv
    omega
  obtain ⟨n, rfl⟩ : ∃ n : Nat, v = (n : Int) := ⟨v.toNat, by omega⟩
  obtain ⟨l, a', sd', g1, g2, g3, g4⟩ := bits_l0_tells hs hl n [] a1 sd1 (by simp; omega) (by omega) (by omega)
  refine ⟨l, a', sd', ?_, g2, by omega, by omega⟩
  simp only [spec_l1Cur_bits.f, e1, Option.bind_some]
  exact g1
theorem drawFrom_tells {s : List Int} (hs : isBytes s) (hl : s.length ≤ 4294967296) : ∃ l, Tells (fun k => spec_DrawFromBits.f k s) l ∧ Tells (fun k => spec_DrawStuffBits.f k s) l ∧ l.length ≤ 402 := by
  obtain ⟨l, a', sd', g1, g2, _, _⟩ := drawBits_tells hs hl 0 0 (by omega) (by omega)
  have h : Tells (fun k => spec_DrawFromBits.f k s) l := by
    simp only [spec_DrawFromBits.f]
    exact Tells.bind g1 (Tells.now fun _ => rfl)
  refine ⟨l, h, ?_, g2⟩
  simp only [spec_DrawStuffBits.f]
  exact Tells.bind h (Tells.now fun _ => rfl)
theorem drawUnstuff_tells {s : List Int} (hs : isBytes s) (hl : s.length ≤ 4294967296) : ∃ l, Tells (fun k => spec_DrawUnstuffBits.f k s) l ∧ l.length ≤ 1000 := by
  obtain ⟨l, a, sd, g1, g2, g3, g4⟩ := drawBits_tells hs hl 0 0 (by omega) (by omega)
  obtain ⟨_, h2⟩ := areBits_tells l (by omega)
  have other (b : Int) (se : Int) (h0 : 0 ≤ b) (h1 : b ≤ 100000) : ∃ r, Tells (fun k => spec_DrawUnstuffBits.j0 k l false s b se) r ∧ r.length ≤ 1000 := by
    obtain ⟨r, a', sd', k1, k2, _, _⟩ := drawBits_tells hs hl b se h0 h1
    refine ⟨r, Tells.succ ?_, by omega⟩
    simp only [spec_DrawUnstuffBits.j0, Bool.false_eq_true, if_false]
    exact Tells.bind k1 (Tells.now fun _ => rfl)
  cases c : areBitsB l
  · rw [c] at h2
    obtain ⟨r, k1, k2⟩ := other a sd g3 (by omega)
    refine ⟨r, ?_, k2⟩
    simp only [spec_DrawUnstuffBits.f]
    refine Tells.bind g1 (Tells.bind h2 ?_)
    simpa using k1
  · rw [c] at h2
    obtain ⟨b, a', sd', e, h5, h6⟩ := one_tells hs hl a sd 2 g3 (by omega)
    have key : ∃ r, Tells (fun k => spec_DrawUnstuffBits.j0 k l b s a' sd') r ∧ r.length ≤ 1000 := by
      cases b
      · exact other a' sd' (by omega) (by omega)
      · have hb := (areBits_of c).2
        have hs2 := stf_len l 0
        refine ⟨stf 0 l, Tells.succ ?_, by omega⟩
        simp only [spec_DrawUnstuffBits.j0, if_true]
        exact Tells.bind (stuffed_tells l hb (by omega)).2 (Tells.now fun _ => rfl)
    obtain ⟨r, k1, k2⟩ := key
    refine ⟨r, ?_, k2⟩
    simp only [spec_DrawUnstuffBits.f]
    refine Tells.bind g1 (Tells.bind h2 ?_)
    simp only [if_true, e, Option.bind_some]
    exact k1
end Go.Proofs.Ytoeninciicickaa.PA
