/- Buckets and traffic that are drawn: something is drawn, of no great length; no condition but that bytes are bytes. -/
import Derived.Test.YthecknnmfghilaaPureBt
import Derived.Test.YthecknnmfghilaaCur
import Derived.Test.YthecknnmfghilaaPA10
import Derived.Test.YthecknnmfghilaaPA11
import Derived.Test.YthecknnmfghilaaPA16
import Derived.Test.YthecknnmfghilaaPA17
import Derived.Test.YthecknnmfghilaaPA24
import Derived.Test.YthecknnmfghilaaPA28
import Derived.Test.YthecknnmfghilaaPA31
import Derived.Test.YthecknnmfghilaaPA15
namespace Go.Proofs.Ythecknnmfghilaa.PA
open Go Go.RowKit Go.Proofs.YthecknnmfghilaaW.PrintWords Go.Proofs.YthecknnmfghilaaW.PrintLast Go.Proofs.YthecknnmfghilaaW.PrintMore
set_option linter.unusedVariables false
set_option linter.unusedSimpArgs false
theorem bucket_draws {s : List Int} (hs : isBytes s) (hl : s.length ≤ 4294967296) (a sd : Int) (h0 : 0 ≤ a) (h1 : a ≤ 1099511627000) : ∃ r d a' sd', spec_l1Cur_bucket.f s a sd = some (r, d, a', sd') ∧ a ≤ a' ∧ a' ≤ a + 6 := by
  unfold spec_l1Cur_bucket.f
  obtain ⟨b, a1, s1, e1, p1, q1⟩ := one_tells hs hl a sd 12 h0 (by omega)
  rw [e1]
  simp only [Option.bind_some]
  cases b
  · obtain ⟨x, a2, s2, e2, _, _, p2, q2⟩ := pick_tells hs hl a1 s1 6 (by omega) (by omega)
    obtain ⟨y, a3, s3, e3, _, _, p3, q3⟩ := pick_tells hs hl a2 s2 20 (by omega) (by omega)
    rw [if_neg (by decide), e2, Option.bind_some, e3, Option.bind_some]
    exact ⟨_, _, a3, s3, rfl, by omega, by omega⟩
  · obtain ⟨x, a2, s2, e2, _, p2, q2⟩ := among_tells hs hl a1 s1 [0, 1, 100, 101, -1] (by simp) (by omega) (by omega)
    obtain ⟨y, a3, s3, e3, _, p3, q3⟩ := among_tells hs hl a2 s2 [0, 1, 1000, 1001, 4611686018427387904] (by simp) (by omega) (by omega)
    rw [if_pos rfl, e2, Option.bind_some, e3, Option.bind_some]
    exact ⟨_, _, a3, s3, rfl, by omega, by omega⟩
theorem traffic_loop {s : List Int} (hs : isBytes s) (hl : s.length ≤ 4294967296) (h : Int) : ∀ (n : Nat) (x a sd : Int) (out : List Int), x = (n : Int) → n ≤ 12 → out.length + n ≤ 12 → 0 ≤ a → a + 8 * n ≤ 1099511627500 →
    ∃ l a' sd', Tells (fun k => spec_l1Cur_traffic.l0 k out h x s a sd) (l, a', sd') ∧ l.length ≤ 41 ∧ a ≤ a' ∧ a' ≤ a + 8 * n + 8 := by
  intro n
  induction n with
  | zero =>
    intro x a sd out hx hn ho h0 h1
    obtain ⟨y, a1, s1, e1, _, _, p1, q1⟩ := pick_tells hs hl a sd 14 h0 (by omega)
    by_cases c0 : y = 0
    · obtain ⟨z, a2, s2, e2, _, p2, q2⟩ := among_tells hs hl a1 s1 [-1, 1000, 1001, 4611686018427387904] (by simp) (by omega) (by omega)
      refine ⟨out ++ [z], a2, s2, Tells.succ (Tells.now fun k => ?_), by simp; omega, by omega, by omega⟩
      simp only [spec_l1Cur_traffic.l0]
      rw [if_neg (by omega), e1, Option.bind_some]
      simp only [c0, if_true]
      rw [e2, Option.bind_some, if_pos (by omega)]
    · by_cases c1 : y = 1
      · obtain ⟨z, a2, s2, e2, g1, g2, p2, q2⟩ := pick_tells hs hl a1 s1 2 (by omega) (by omega)
        have e3 : wrap64 (40 + z) = 40 + z := w64 (by omega) (by omega)
        refine ⟨List.replicate (40 + z).toNat 0, a2, s2, Tells.succ (Tells.now fun k => ?_), by simp; omega, by omega, by omega⟩
        simp only [spec_l1Cur_traffic.l0]
        rw [if_neg (by omega), e1, Option.bind_some]
        simp only [if_neg c0, if_pos c1]
        rw [e2, Option.bind_some]
        simp only [e3]
        rw [if_pos (by omega), if_pos (by omega)]
      · refine ⟨out, a1, s1, Tells.succ (Tells.now fun k => ?_), by omega, by omega, by omega⟩
        simp only [spec_l1Cur_traffic.l0]
        rw [if_neg (by omega), e1, Option.bind_some]
        simp only [if_neg c0, if_neg c1]
  | succ n ih =>
    intro x a sd out hx hn ho h0 h1
    obtain ⟨b, a1, s1, e1, p1, q1⟩ := one_tells hs hl a sd 3 h0 (by omega)
    obtain ⟨x1, hx1⟩ : ∃ y : Int, y = x - 1 := ⟨_, rfl⟩
    have e3 : wrap64 (x - 1) = x1 := by rw [w64 (by omega) (by omega)]; exact hx1.symm
    cases b
    · obtain ⟨z, a2, s2, e2, g1, g2, p2, q2⟩ := pick_tells hs hl a1 s1 h (by omega) (by omega)
      obtain ⟨l, a', sd', hh, l1, l2, l3⟩ := ih x1 a2 s2 (out ++ [z]) (by omega) (by omega) (by simp; omega) (by omega) (by omega)
      refine ⟨l, a', sd', Tells.step (fun k => ?_) hh, l1, by omega, by omega⟩
      simp only [spec_l1Cur_traffic.l0]
      rw [if_pos (by omega), e1, Option.bind_some]
      simp only [if_neg (show ¬ false = true by decide)]
      rw [e2, Option.bind_some, if_pos (by omega), e3]
    · obtain ⟨l, a', sd', hh, l1, l2, l3⟩ := ih x1 a1 s1 (out ++ [0]) (by omega) (by omega) (by simp; omega) (by omega) (by omega)
      refine ⟨l, a', sd', Tells.step (fun k => ?_) hh, l1, by omega, by omega⟩
      simp only [spec_l1Cur_traffic.l0]
      rw [if_pos (by omega), e1, Option.bind_some]
      simp only [if_true]
      rw [if_pos (by omega), e3]
theorem traffic_draws {s : List Int} (hs : isBytes s) (hl : s.length ≤ 4294967296) (a sd : Int) (h0 : 0 ≤ a) (h1 : a ≤ 1099511627000) : ∃ l a' sd', Tells (fun k => spec_l1Cur_traffic.f k s a sd) (l, a', sd') ∧ l.length ≤ 41 ∧ a ≤ a' ∧ a' ≤ a + 110 := by
  unfold spec_l1Cur_traffic.f
  obtain ⟨z, a1, s1, e1, _, p1, q1⟩ := among_tells hs hl a sd [3, 6, 12, 30] (by simp) (by omega) (by omega)
  obtain ⟨x, a2, s2, e2, g1, g2, p2, q2⟩ := pick_tells hs hl a1 s1 12 (by omega) (by omega)
  obtain ⟨l, a', sd', hh, l1, l2, l3⟩ := traffic_loop hs hl z x.toNat x a2 s2 [] (by omega) (by omega) (by simp; omega) (by omega) (by omega)
  refine ⟨l, a', sd', Tells.congr (fun k => ?_) hh, l1, by omega, by omega⟩
  rw [e1, Option.bind_some, e2, Option.bind_some]
theorem send_loop (r dp : Int) (l : List Int) (hr : 1 ≤ r ∧ r ≤ 100) (hdp : 1 ≤ dp ∧ dp ≤ 1000) (ht : isTr l = true) : ∀ (m t : Nat) (T v bl : Int) (o p : List Int), T = (t : Int) → t + m = 100 → 0 ≤ v ∧ v ≤ 1000 → 0 ≤ bl ∧ bl ≤ 1000 * (t : Int) → o.length ≤ t → p.length ≤ t →
    ∃ q, Tells (fun k => spec_shSend.l0 k r dp l o p v bl T) q ∧ q.1.length ≤ 100 := by
  have hlen := (isTr_iff.mp ht).1
  intro m
  induction m with
  | zero =>
    intro t T v bl o p hT hm hv hb ho hp
    by_cases c : bl > 0
    · refine ⟨([], [], false), Tells.succ (Tells.succ (Tells.now fun k => ?_)), by simp⟩
      simp only [spec_shSend.l0, spec_shSend.j1, c, decide_true, if_true]
      rw [if_neg (by omega), if_pos (by omega)]
    · refine ⟨(o, p, true), Tells.succ (Tells.succ (Tells.now fun k => ?_)), by show o.length ≤ 100; omega⟩
      simp only [spec_shSend.l0, spec_shSend.j1, c, decide_false]
      rw [if_neg (by omega), if_neg (by decide)]
  | succ m ih =>
    intro t T v bl o p hT hm hv hb ho hp
    obtain ⟨T1, hT1⟩ : ∃ y : Int, y = T + 1 := ⟨_, rfl⟩
    have e1 : wrap64 (T + 1) = T1 := by rw [w64 (by omega) (by omega)]; exact hT1.symm
    have hgo : ∀ b2 : Int, 0 ≤ b2 ∧ b2 ≤ 1000 * (t : Int) + 1000 → ∃ x v2 b3 : Int, mn b2 v = x ∧ wrap64 (b2 - x) = b3 ∧ mn dp (wrap64 (wrap64 (v - x) + r)) = v2 ∧ ∃ q, Tells (fun k => spec_shSend.l0 k r dp l (o ++ [x]) (p ++ [b3]) v2 b3 T1) q ∧ q.1.length ≤ 100 := by
      intro b2 hb2
      have hx0 : 0 ≤ mn b2 v := mn_ge hb2.1 hv.1
      have hx1 : mn b2 v ≤ b2 ∧ mn b2 v ≤ v := mn_le.mp (Int.le_refl _)
      obtain ⟨x, hx⟩ : ∃ x, mn b2 v = x := ⟨_, rfl⟩
      rw [hx] at hx0 hx1
      have e5 : wrap64 (b2 - x) = b2 - x := w64 (by omega) (by omega)
      have e6 : wrap64 (wrap64 (v - x) + r) = v - x + r := by rw [w64 (x := v - x) (by omega) (by omega), w64 (by omega) (by omega)]
      have hv2 : 0 ≤ mn dp (v - x + r) := mn_ge (by omega) (by omega)
      have hv3 : mn dp (v - x + r) ≤ dp := (mn_le.mp (Int.le_refl _)).1
      refine ⟨x, mn dp (v - x + r), b2 - x, hx, e5, by rw [e6], ih (t + 1) T1 _ _ _ _ (by omega) (by omega) (by omega) (by omega) (by simp; omega) (by simp; omega)⟩
    by_cases c1 : t < l.length
    · have hx := tr_at ht c1
      have hrd := rd_at l t c1
      rw [← hT] at hrd
      obtain ⟨b2, hb2⟩ : ∃ y : Int, y = bl + l[t] := ⟨_, rfl⟩
      have e4 : wrap64 (bl + l[t]) = b2 := by rw [w64 (by omega) (by omega)]; exact hb2.symm
      obtain ⟨x, v2, b3, f1, f2, f3, q, hq, hl⟩ := hgo b2 (by omega)
      refine ⟨q, Tells.step (f := fun k => spec_shSend.j1 k r dp l o p v bl T true) (fun k => ?_) (Tells.step (fun k => ?_) hq), hl⟩
      · simp only [spec_shSend.l0]
        rw [if_pos (by omega)]
      · simp only [spec_shSend.j1, least_tells, Option.bind_some, hrd, e4, f1, f2, f3, e1, if_true]
        rw [if_neg (by omega), if_pos (by omega), if_pos (by omega), if_pos (by omega), if_pos (by omega)]
    · by_cases c : bl > 0
      · obtain ⟨x, v2, b3, f1, f2, f3, q, hq, hl⟩ := hgo bl (by omega)
        refine ⟨q, Tells.step (f := fun k => spec_shSend.j1 k r dp l o p v bl T true) (fun k => ?_) (Tells.step (fun k => ?_) hq), hl⟩
        · simp only [spec_shSend.l0, c, decide_true]
          rw [if_neg (by omega)]
        · simp only [spec_shSend.j1, least_tells, Option.bind_some, f1, f2, f3, e1, if_true]
          rw [if_neg (by omega), if_neg (by omega), if_pos (by omega), if_pos (by omega)]
      · refine ⟨(o, p, true), Tells.succ (Tells.succ (Tells.now fun k => ?_)), by show o.length ≤ 100; omega⟩
        simp only [spec_shSend.l0, spec_shSend.j1, c, decide_false]
        rw [if_neg (by omega), if_neg (by decide)]
theorem send_tells (r d : Int) (l : List Int) (hb : isBk r d = true) (ht : isTr l = true) : ∃ q, Tells (fun k => spec_shSend.f k r d l) q ∧ q.1.length ≤ 100 := by
  obtain ⟨hr, hd⟩ := isBk_iff.mp hb
  exact send_loop r d l hr hd ht 100 0 0 d 0 [] [] rfl (by omega) (by omega) (by omega) (by simp) (by simp)
theorem kept_draws {s : List Int} (hs : isBytes s) (hl : s.length ≤ 4294967296) : ∃ r d l a' sd', Tells (fun k => spec_l1Cur_kept.f k s 0 0) (r, d, l, a', sd') ∧ l.length ≤ 100 ∧ 0 ≤ a' ∧ a' ≤ 1000 := by
  unfold spec_l1Cur_kept.f
  obtain ⟨r, d, a1, s1, e1, p1, q1⟩ := bucket_draws hs hl 0 0 (by omega) (by omega)
  obtain ⟨l, a2, s2, e2, l2, p2, q2⟩ := traffic_draws hs hl a1 s1 (by omega) (by omega)
  have hno : ∀ a' s', Tells (fun k => spec_l1Cur_kept.j0 k l false s a' s' r d) (r, d, l, a', s') := fun a' s' => Tells.succ (Tells.now fun k => by simp only [spec_l1Cur_kept.j0, if_neg (show ¬ false = true by decide)])
  have hask := shAsked_tells r d l
  rw [e1]
  simp only [Option.bind_some]
  by_cases c : (isBk r d && isTr l) = true
  · obtain ⟨b, a3, s3, e3, p3, q3⟩ := one_tells hs hl a2 s2 2 (by omega) (by omega)
    have c' := c
    simp only [Bool.and_eq_true] at c'
    obtain ⟨q, hq, hql⟩ := send_tells r d l c'.1 c'.2
    cases b
    · refine ⟨r, d, l, a3, s3, Tells.bind e2 (Tells.bind hask ?_), by omega, by omega, by omega⟩
      simp only [c, if_true, e3, Option.bind_some]
      exact hno a3 s3
    · by_cases c2 : q.2.2 = true ∧ q.1.length ≤ 40
      · refine ⟨r, d, q.1, a3, s3, Tells.bind e2 (Tells.bind hask ?_), by omega, by omega, by omega⟩
        simp only [c, if_true, e3, Option.bind_some]
        refine Tells.succ ?_
        simp only [spec_l1Cur_kept.j0, if_true]
        refine Tells.bind hq (Tells.now fun k => ?_)
        rw [if_pos c2.1, if_pos (by omega)]
      · refine ⟨r, d, l, a3, s3, Tells.bind e2 (Tells.bind hask ?_), by omega, by omega, by omega⟩
        simp only [c, if_true, e3, Option.bind_some]
        refine Tells.succ ?_
        simp only [spec_l1Cur_kept.j0, if_true]
        refine Tells.bind hq (Tells.now fun k => ?_)
        by_cases c3 : q.2.2 = true
        · rw [if_pos c3, if_neg (by have : ¬ q.1.length ≤ 40 := fun h => c2 ⟨c3, h⟩
                                    omega)]
        · rw [if_neg c3]
  · refine ⟨r, d, l, a2, s2, Tells.bind e2 (Tells.bind hask ?_), by omega, by omega, by omega⟩
    simp only [if_neg c]
    exact hno a2 s2
theorem drawLevels_tells {s : List Int} (hs : isBytes s) (hl : s.length ≤ 4294967296) : ∃ r d l, Tells (fun k => spec_DrawLevelsOf.f k s) (r, d, l) ∧ l.length ≤ 100 := by
  obtain ⟨r, d, l, a', sd', h, h2, _⟩ := kept_draws hs hl
  exact ⟨r, d, l, Tells.bind h (Tells.now fun k => rfl), h2⟩
theorem drawKeepsBoth_tells {s : List Int} (hs : isBytes s) (hl : s.length ≤ 4294967296) : ∃ r d r' d' l, Tells (fun k => spec_DrawKeepsBoth.f k s) (r, d, r', d', l) ∧ l.length ≤ 100 := by
  obtain ⟨r, d, l, a', sd', h, h2, h3, h4⟩ := kept_draws hs hl
  obtain ⟨r', d', a1, s1, e1, p1, q1⟩ := bucket_draws hs hl a' sd' (by omega) (by omega)
  refine ⟨r', d', r, d, l, Tells.bind h (Tells.now fun k => ?_), h2⟩
  show (spec_l1Cur_bucket.f s a' sd').bind _ = _
  rw [e1]
  rfl
theorem drawLeastDepth_tells {s : List Int} (hs : isBytes s) (hl : s.length ≤ 4294967296) : ∃ r l, Tells (fun k => spec_DrawLeastDepth.f k s) (r, l) ∧ l.length ≤ 100 := by
  unfold spec_DrawLeastDepth.f spec_DrawLeakOf.f
  obtain ⟨b, a1, s1, e1, p1, q1⟩ := one_tells hs hl 0 0 10 (by omega) (by omega)
  rw [e1]
  simp only [Option.bind_some]
  cases b
  · obtain ⟨z, a2, s2, e2, g1, g2, p2, q2⟩ := pick_tells hs hl a1 s1 8 (by omega) (by omega)
    obtain ⟨l, a3, s3, e3, l3, p3, q3⟩ := traffic_draws hs hl a2 s2 (by omega) (by omega)
    simp only [if_neg (show ¬ false = true by decide), e2, Option.bind_some]
    exact ⟨_, l, Tells.bind (Tells.bind e3 (Tells.now fun k => rfl)) (Tells.now fun k => rfl), by omega⟩
  · obtain ⟨z, a2, s2, e2, g1, p2, q2⟩ := among_tells hs hl a1 s1 [0, 100, 101] (by simp) (by omega) (by omega)
    obtain ⟨l, a3, s3, e3, l3, p3, q3⟩ := traffic_draws hs hl a2 s2 (by omega) (by omega)
    simp only [if_true, e2, Option.bind_some]
    exact ⟨_, l, Tells.bind (Tells.bind e3 (Tells.now fun k => rfl)) (Tells.now fun k => rfl), by omega⟩
theorem drawLeastRate_tells {s : List Int} (hs : isBytes s) (hl : s.length ≤ 4294967296) : ∃ r l, Tells (fun k => spec_DrawLeastRate.f k s) (r, l) ∧ l.length ≤ 100 := by
  unfold spec_DrawLeastRate.f
  obtain ⟨b, a1, s1, e1, p1, q1⟩ := one_tells hs hl 0 0 10 (by omega) (by omega)
  rw [e1]
  simp only [Option.bind_some]
  cases b
  · obtain ⟨z, a2, s2, e2, g1, g2, p2, q2⟩ := pick_tells hs hl a1 s1 30 (by omega) (by omega)
    obtain ⟨l, a3, s3, e3, l3, p3, q3⟩ := traffic_draws hs hl a2 s2 (by omega) (by omega)
    simp only [if_neg (show ¬ false = true by decide), e2, Option.bind_some]
    exact ⟨_, l, Tells.bind e3 (Tells.now fun k => rfl), by omega⟩
  · obtain ⟨z, a2, s2, e2, g1, p2, q2⟩ := among_tells hs hl a1 s1 [0, 1000, 1001] (by simp) (by omega) (by omega)
    obtain ⟨l, a3, s3, e3, l3, p3, q3⟩ := traffic_draws hs hl a2 s2 (by omega) (by omega)
    simp only [if_true, e2, Option.bind_some]
    exact ⟨_, l, Tells.bind e3 (Tells.now fun k => rfl), by omega⟩
end Go.Proofs.Ythecknnmfghilaa.PA
