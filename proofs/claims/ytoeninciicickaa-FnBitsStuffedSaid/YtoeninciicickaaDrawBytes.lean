/- What the reference draws for bytes: lists of bounded length; no condition but that bytes are bytes. -/
import Derived.Test.YtoeninciicickaaCur
import Derived.Test.YtoeninciicickaaPA25
namespace Go.Proofs.Ytoeninciicickaa.PA
open Go Go.RowKit Go.Proofs.YtoeninciicickaaW.PrintWords Go.Proofs.YtoeninciicickaaW.PrintLast Go.Proofs.YtoeninciicickaaW.PrintMore
set_option linter.unusedVariables false
theorem byteOf_tells {s : List Int} (hs : isBytes s) (hl : s.length ≤ 4294967296) (a sd : Int) (h0 : 0 ≤ a) (h1 : a ≤ 1000000000) : ∃ x a' sd', spec_l1Cur_byteOf.f s a sd = some (x, a', sd') ∧ a ≤ a' ∧ a' ≤ a + 6 := by
  obtain ⟨p, a1, sd1, e1, _, _, h2, h3⟩ := pick_tells hs hl a sd 256 h0 (by omega)
  obtain ⟨q, a2, sd2, e2, _, _, h4, h5⟩ := pick_tells hs hl a1 sd1 256 (by omega) (by omega)
  obtain ⟨x, a3, sd3, e3, _, h6, h7⟩ := among_tells hs hl a2 sd2 [0, 255, 126, 127, 1, 128, p, q] (by simp) (by omega) (by omega)
  refine ⟨x, a3, sd3, ?_, by omega, by omega⟩
  simp only [spec_l1Cur_byteOf.f, e1, e2, e3, Option.bind_some]
theorem check_l1 (l : List Int) (i : Int) (d : Nat) (hq : ∀ c, ∃ q, Tells (fun k => spec_frCheck.l0 k c l (l.length : Int) (wrap64 (i + 1))) q) : ∀ (j : Nat) (c : Int), j ≤ 8 → 8 - j = d → ∃ q, Tells (fun k => spec_frCheck.l1 k c (j : Int) l (l.length : Int) i) q := by
  induction d with
  | zero =>
    intro j c hj hd
    obtain ⟨q, h⟩ := hq c
    refine ⟨q, Tells.step (fun k => ?_) h⟩
    simp only [spec_frCheck.l1]
    rw [if_neg (by omega)]
  | succ d ih =>
    intro j c hj hd
    by_cases c2 : wrap64 (c * 2) > 255
    · obtain ⟨q, h⟩ := ih (j + 1) (Go.bits .xor .i64 (Int.tmod (wrap64 (c * 2)) 256) 7) (by omega) (by omega)
      refine ⟨q, Tells.step (fun k => ?_) h⟩
      simp only [spec_frCheck.l1]
      rw [if_pos (by omega), if_pos c2, w64 (x := (j : Int) + 1) (by omega) (by omega)]
      rfl
    · obtain ⟨q, h⟩ := ih (j + 1) (wrap64 (c * 2)) (by omega) (by omega)
      refine ⟨q, Tells.step (fun k => ?_) h⟩
      simp only [spec_frCheck.l1]
      rw [if_pos (by omega), if_neg c2, w64 (x := (j : Int) + 1) (by omega) (by omega)]
      rfl
theorem check_l0 (l : List Int) (hl : l.length ≤ 1000000) (d : Nat) : ∀ (i : Nat) (c : Int), i ≤ l.length → l.length - i = d → ∃ q, Tells (fun k => spec_frCheck.l0 k c l (l.length : Int) (i : Int)) q := by
  induction d with
  | zero =>
    intro i c hi hd
    refine ⟨c, Tells.succ (Tells.now fun k => ?_)⟩
    simp only [spec_frCheck.l0]
    rw [if_neg (by omega)]
  | succ d ih =>
    intro i c hi hd
    have hin : i < l.length := by omega
    obtain ⟨q, h⟩ := check_l1 l (i : Int) 8 (fun c' => by rw [w64 (x := (i : Int) + 1) (by omega) (by omega)]; exact ih (i + 1) c' (by omega) (by omega)) 0 (Go.bits .xor .i64 c l[i]) (by omega) (by omega)
    refine ⟨q, Tells.step (fun k => ?_) h⟩
    simp only [spec_frCheck.l0, rd_at l i hin]
    rw [if_pos (by omega), if_pos (by omega), if_pos (by omega)]
    rfl
theorem frCheck_tells (l : List Int) (hl : l.length ≤ 1000000) : ∃ q, Tells (fun k => spec_frCheck.f k l) q := check_l0 l hl l.length 0 0 (by omega) (by omega)
theorem frList_tells (x y z : Int) (l : List Int) (hl : l.length ≤ 1000) : ∃ q, Tells (fun k => spec_frList.f k x y z l) q ∧ q.length = l.length + 3 := by
  obtain ⟨c, h⟩ := frCheck_tells ([wrap64 ((wrap64 (x * 16)) + y), wrap64 ((wrap64 (z * 32)) + (l.length : Int))] ++ l) (by simp; omega)
  refine ⟨[wrap64 ((wrap64 (x * 16)) + y), wrap64 ((wrap64 (z * 32)) + (l.length : Int))] ++ l ++ [c], ?_, by simp⟩
  simp only [spec_frList.f, Option.bind_some]
  have h2 : ([wrap64 ((wrap64 (x * 16)) + y), wrap64 ((wrap64 (z * 32)) + (l.length : Int))] : List Int).length + l.length < 17592186044416 := by simp; omega
  have h3 : ([wrap64 ((wrap64 (x * 16)) + y), wrap64 ((wrap64 (z * 32)) + (l.length : Int))] ++ l).length < 17592186044416 := by simp; omega
  simp only [h2, if_true]
  refine Tells.bind h (Tells.now fun _ => ?_)
  rw [if_pos h3]
theorem sure_l0 {s : List Int} (hs : isBytes s) (hl : s.length ≤ 4294967296) (x y z : Int) (n : Nat) : ∀ (a sd : Int) (l : List Int), l.length + n ≤ 40 → 0 ≤ a → a ≤ 10000000 - 6 * n →
    ∃ r a' sd', Tells (fun k => spec_l1Cur_sureFrame.l0 k (n : Int) s a sd x y z l) (x, y, z, r, a', sd') ∧ r.length ≤ 40 ∧ a ≤ a' ∧ a' ≤ a + 6 * n := by
  induction n with
  | zero =>
    intro a sd l hn h0 h1
    refine ⟨l, a, sd, Tells.succ (Tells.now fun k => ?_), by omega, by omega, by omega⟩
    simp only [spec_l1Cur_sureFrame.l0]
    rw [if_neg (by omega)]
  | succ n ih =>
    intro a sd l hn h0 h1
    obtain ⟨v, a1, sd1, e1, h2, h3⟩ := byteOf_tells hs hl a sd h0 (by omega)
    obtain ⟨r, a', sd', g1, g2, g3, g4⟩ := ih a1 sd1 (l ++ [v]) (by simp; omega) (by omega) (by omega)
    obtain ⟨N, hN⟩ : ∃ N : Int, N = (n : Int) := ⟨_, rfl⟩
    rw [← hN] at g1
    rw [show ((n + 1 : Nat) : Int) = N + 1 from by omega]
    refine ⟨r, a', sd', Tells.step (fun k => ?_) g1, g2, by omega, by omega⟩
    simp only [spec_l1Cur_sureFrame.l0, e1, Option.bind_some]
    rw [if_pos (by omega), if_pos (by omega), w64 (x := N + 1 - 1) (by omega) (by omega), show N + 1 - 1 = N from by omega]
theorem bytes_l0 {s : List Int} (hs : isBytes s) (hl : s.length ≤ 4294967296) (d : Nat) : ∀ (x : List Int) (a sd : Int), x.length + d = 50 → 0 ≤ a → a ≤ 10000000 - 8 * d →
    ∃ l a' sd', Tells (fun k => spec_l1Cur_bytes.l0 k x s a sd) (l, a', sd') ∧ l.length ≤ 50 := by
  induction d with
  | zero =>
    intro x a sd hx h0 h1
    obtain ⟨p, a1, sd1, e1, hp0, hp, h2, h3⟩ := pick_tells hs hl a sd 2 h0 (by omega)
    refine ⟨x, a1, sd1, Tells.succ (Tells.now fun k => ?_), by omega⟩
    simp only [spec_l1Cur_bytes.l0, e1, Option.bind_some]
    rw [w64 (x := 40 + p) (by omega) (by omega), if_neg (by omega)]
  | succ d ih =>
    intro x a sd hx h0 h1
    obtain ⟨p, a1, sd1, e1, hp0, hp, h2, h3⟩ := pick_tells hs hl a sd 2 h0 (by omega)
    by_cases c : (x.length : Int) < 40 + p
    · obtain ⟨v, a2, sd2, e2, h4, h5⟩ := byteOf_tells hs hl a1 sd1 (by omega) (by omega)
      obtain ⟨l, a', sd', g1, g2⟩ := ih (x ++ [v]) a2 sd2 (by simp; omega) (by omega) (by omega)
      refine ⟨l, a', sd', Tells.step (fun k => ?_) g1, g2⟩
      simp only [spec_l1Cur_bytes.l0, e1, e2, Option.bind_some]
      rw [w64 (x := 40 + p) (by omega) (by omega), if_pos (by omega), if_pos (by omega)]
    · refine ⟨x, a1, sd1, Tells.succ (Tells.now fun k => ?_), by omega⟩
      simp only [spec_l1Cur_bytes.l0, e1, Option.bind_some]
      rw [w64 (x := 40 + p) (by omega) (by omega), if_neg (by omega)]
theorem drawBytes_tells {s : List Int} (hs : isBytes s) (hl : s.length ≤ 4294967296) : ∃ l, Tells (fun k => spec_DrawBitsOf.f k s) l ∧ l.length ≤ 50 := by
  obtain ⟨x, a1, sd1, e1, _, _, h2, h3⟩ := pick_tells hs hl 0 0 12 (by omega) (by omega)
  obtain ⟨y, a2, sd2, e2, _, _, h4, h5⟩ := pick_tells hs hl a1 sd1 12 (by omega) (by omega)
  obtain ⟨z, a3, sd3, e3, _, _, h6, h7⟩ := pick_tells hs hl a2 sd2 8 (by omega) (by omega)
  obtain ⟨w, a4, sd4, e4, hw0, hw, h8, h9⟩ := pick_tells hs hl a3 sd3 (wrap64 (4 + 1)) (by omega) (by omega)
  have h5e : wrap64 (4 + 1) = 5 := w64 (by omega) (by omega)
  rw [h5e] at hw
  obtain ⟨n, rfl⟩ : ∃ n : Nat, w = (n : Int) := ⟨w.toNat, by omega⟩
  obtain ⟨r, a5, sd5, g1, g2, g3, g4⟩ := sure_l0 hs hl x y z n a4 sd4 [] (by simp; omega) (by omega) (by omega)
  have hsure : Tells (fun k => spec_l1Cur_sureFrame.f k s 0 0 12 4) (x, y, z, r, a5, sd5) := by
    simp only [spec_l1Cur_sureFrame.f, e1, e2, e3, e4, Option.bind_some]
    exact g1
  obtain ⟨t, ht, htl⟩ := frList_tells x y z r (by omega)
  obtain ⟨p, a6, sd6, e6, hp0, hp, k1, k2⟩ := pick_tells hs hl a5 sd5 10 (by omega) (by omega)
  have key : ∃ l a' sd', Tells (fun k => spec_l1Cur_bytes.f k s 0 0) (l, a', sd') ∧ l.length ≤ 50 := by
    simp only [spec_l1Cur_bytes.f]
    by_cases c0 : p = 0
    · obtain ⟨q, a7, sd7, e7, hq0, hq, k3, k4⟩ := pick_tells hs hl a6 sd6 (t.length : Int) (by omega) (by omega)
      obtain ⟨v, a8, sd8, e8, k5, k6⟩ := byteOf_tells hs hl a7 sd7 (by omega) (by omega)
      refine ⟨t.set q.toNat v, a8, sd8, Tells.bind hsure (Tells.bind ht (Tells.now fun _ => ?_)), by simp; omega⟩
      simp only [e6, e7, e8, Option.bind_some]
      rw [if_pos c0, if_pos (by omega), if_pos (by omega)]
    by_cases c1 : p = 1
    · obtain ⟨q, a7, sd7, e7, hq0, hq, k3, k4⟩ := pick_tells hs hl a6 sd6 (t.length : Int) (by omega) (by omega)
      obtain ⟨v, a8, sd8, e8, _, k5, k6⟩ := among_tells hs hl a7 sd7 [(-1), 256, 4611686018427387904] (by simp) (by omega) (by omega)
      refine ⟨t.set q.toNat v, a8, sd8, Tells.bind hsure (Tells.bind ht (Tells.now fun _ => ?_)), by simp; omega⟩
      simp only [e6, e7, e8, Option.bind_some]
      rw [if_neg c0, if_pos c1, if_pos (by omega), if_pos (by omega)]
    by_cases c2 : p = 2
    · obtain ⟨l, a', sd', j1, j2⟩ := bytes_l0 hs hl (50 - t.length) t a6 sd6 (by omega) (by omega) (by omega)
      refine ⟨l, a', sd', Tells.bind hsure (Tells.bind ht (Tells.congr (fun k => ?_) j1)), j2⟩
      simp only [e6, Option.bind_some]
      rw [if_neg c0, if_neg c1, if_pos c2]
    by_cases c3 : p = 3
    · refine ⟨[], a6, sd6, Tells.bind hsure (Tells.bind ht (Tells.now fun _ => ?_)), by simp⟩
      simp only [e6, Option.bind_some]
      rw [if_neg c0, if_neg c1, if_neg c2, if_pos c3]
    by_cases c4 : p = 4
    · refine ⟨t.take (wrap64 ((t.length : Int) - 1)).toNat, a6, sd6, Tells.bind hsure (Tells.bind ht (Tells.now fun _ => ?_)), by simp; omega⟩
      have hw1 : wrap64 ((t.length : Int) - 1) = (t.length : Int) - 1 := w64 (by omega) (by omega)
      simp only [e6, Option.bind_some]
      rw [if_neg c0, if_neg c1, if_neg c2, if_neg c3, if_pos c4, if_pos (by omega), if_pos (by omega)]
    · refine ⟨t, a6, sd6, Tells.bind hsure (Tells.bind ht (Tells.now fun _ => ?_)), by omega⟩
      simp only [e6, Option.bind_some]
      rw [if_neg c0, if_neg c1, if_neg c2, if_neg c3, if_neg c4]
  obtain ⟨l, a', sd', j1, j2⟩ := key
  refine ⟨l, ?_, j2⟩
  simp only [spec_DrawBitsOf.f, spec_DrawFrameOf.f]
  exact Tells.bind (Tells.bind j1 (Tells.now fun _ => rfl)) (Tells.now fun _ => rfl)
end Go.Proofs.Ytoeninciicickaa.PA
