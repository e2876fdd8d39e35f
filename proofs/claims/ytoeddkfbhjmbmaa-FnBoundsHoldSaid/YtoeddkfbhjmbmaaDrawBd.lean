/- Buckets, servers and traffic that are drawn: something is drawn, of no great length; no condition but that bytes are bytes. -/
import Derived.Test.YtoeddkfbhjmbmaaCur
import Derived.Test.YtoeddkfbhjmbmaaPB20
import Derived.Test.YtoeddkfbhjmbmaaPB19
import Derived.Test.YtoeddkfbhjmbmaaPB18
import Derived.Test.YtoeddkfbhjmbmaaPB28
import Derived.Test.YtoeddkfbhjmbmaaPB31
namespace Go.Proofs.Ytoeddkfbhjmbmaa.PB
open Go Go.RowKit Go.Proofs.YtoeddkfbhjmbmaaW.PrintWords Go.Proofs.YtoeddkfbhjmbmaaW.PrintLast Go.Proofs.YtoeddkfbhjmbmaaW.PrintMore
set_option linter.unusedVariables false
set_option linter.unusedSimpArgs false
theorem bucket_draws {s : List Int} (hs : isBytes s) (hl : s.length ≤ 4294967296) (a sd : Int) (h0 : 0 ≤ a) (h1 : a ≤ 1099511627000) : ∃ r d a' sd', spec_l1Cur_bucket.f s a sd = some (r, d, a', sd') ∧ a ≤ a' ∧ a' ≤ a + 6 := by
  unfold spec_l1Cur_bucket.f
  obtain ⟨b, a1, s1, e1, p1, q1⟩ := one_tells hs hl a sd 12 h0 (by omega)
  rw [e1]
  simp only [Option.bind_some]
  cases b
  · obtain ⟨x, a2, s2, e2, _, _, p2, q2⟩ := pick_tells hs hl a1 s1 6 (by omega) (by omega)
    obtain ⟨y, a3, s3, e3, _, _, p3, q3⟩ := pick_tells hs hl a2 s2 20 (by omega) (by omega)
    rw [if_neg (by decide), e2, Option.bind_some, e3, Option.bind_some]
    exact ⟨_, _, a3, s3, rfl, by omega, by omega⟩
  · obtain ⟨x, a2, s2, e2, _, p2, q2⟩ := among_tells hs hl a1 s1 [0, 1, 100, 101, -1] (by simp) (by omega) (by omega)
    obtain ⟨y, a3, s3, e3, _, p3, q3⟩ := among_tells hs hl a2 s2 [0, 1, 1000, 1001, 4611686018427387904] (by simp) (by omega) (by omega)
    rw [if_pos rfl, e2, Option.bind_some, e3, Option.bind_some]
    exact ⟨_, _, a3, s3, rfl, by omega, by omega⟩
theorem traffic_loop {s : List Int} (hs : isBytes s) (hl : s.length ≤ 4294967296) (h : Int) : ∀ (n : Nat) (x a sd : Int) (out : List Int), x = (n : Int) → n ≤ 12 → out.length + n ≤ 12 → 0 ≤ a → a + 8 * n ≤ 1099511627500 →
    ∃ l a' sd', Tells (fun k => spec_l1Cur_traffic.l0 k out h x s a sd) (l, a', sd') ∧ l.length ≤ 41 ∧ a ≤ a' ∧ a' ≤ a + 8 * n + 8 := by
  intro n
  induction n with
  | zero =>
    intro x a sd out hx hn ho h0 h1
    obtain ⟨y, a1, s1, e1, _, _, p1, q1⟩ := pick_tells hs hl a sd 14 h0 (by omega)
    by_cases c0 : y = 0
    · obtain ⟨z, a2, s2, e2, _, p2, q2⟩ := among_tells hs hl a1 s1 [-1, 1000, 1001, 4611686018427387904] (by simp) (by omega) (by omega)
      refine ⟨out ++ [z], a2, s2, Tells.succ (Tells.now fun k => ?_), by simp; omega, by omega, by omega⟩
      simp only [spec_l1Cur_traffic.l0]
      rw [if_neg (by omega), e1, Option.bind_some]
      simp only [c0, if_true]
      rw [e2, Option.bind_some, if_pos (by omega)]
    · by_cases c1 : y = 1
      · obtain ⟨z, a2, s2, e2, g1, g2, p2, q2⟩ := pick_tells hs hl a1 s1 2 (by omega) (by omega)
        have e3 : wrap64 (40 + z) = 40 + z := w64 (by omega) (by omega)
        refine ⟨List.replicate (40 + z).toNat 0, a2, s2, Tells.succ (Tells.now fun k => ?_), by simp; omega, by omega, by omega⟩
        simp only [spec_l1Cur_traffic.l0]
        rw [if_neg (by omega), e1, Option.bind_some]
        simp only [if_neg c0, if_pos c1]
        rw [e2, Option.bind_some]
        simp only [e3]
        rw [if_pos (by omega), if_pos (by omega)]
      · refine ⟨out, a1, s1, Tells.succ (Tells.now fun k => ?_), by omega, by omega, by omega⟩
        simp only [spec_l1Cur_traffic.l0]
        rw [if_neg (by omega), e1, Option.bind_some]
        simp only [if_neg c0, if_neg c1]
  | succ n ih =>
    intro x a sd out hx hn ho h0 h1
    obtain ⟨b, a1, s1, e1, p1, q1⟩ := one_tells hs hl a sd 3 h0 (by omega)
    obtain ⟨x1, hx1⟩ : ∃ y : Int, y = x - 1 := ⟨_, rfl⟩
    have e3 : wrap64 (x - 1) = x1 := by rw [w64 (by omega) (by omega)]; exact hx1.symm
    cases b
    · obtain ⟨z, a2, s2, e2, g1, g2, p2, q2⟩ := pick_tells hs hl a1 s1 h (by omega) (by omega)
      obtain ⟨l, a', sd', hh, l1, l2, l3⟩ := ih x1 a2 s2 (out ++ [z]) (by omega) (by omega) (by simp; omega) (by omega) (by omega)
      refine ⟨l, a', sd', Tells.step (fun k => ?_) hh, l1, by omega, by omega⟩
      simp only [spec_l1Cur_traffic.l0]
      rw [if_pos (by omega), e1, Option.bind_some]
      simp only [if_neg (show ¬ false = true by decide)]
      rw [e2, Option.bind_some, if_pos (by omega), e3]
    · obtain ⟨l, a', sd', hh, l1, l2, l3⟩ := ih x1 a1 s1 (out ++ [0]) (by omega) (by omega) (by simp; omega) (by omega) (by omega)
      refine ⟨l, a', sd', Tells.step (fun k => ?_) hh, l1, by omega, by omega⟩
      simp only [spec_l1Cur_traffic.l0]
      rw [if_pos (by omega), e1, Option.bind_some]
      simp only [if_true]
      rw [if_pos (by omega), e3]
theorem traffic_draws {s : List Int} (hs : isBytes s) (hl : s.length ≤ 4294967296) (a sd : Int) (h0 : 0 ≤ a) (h1 : a ≤ 1099511627000) : ∃ l a' sd', Tells (fun k => spec_l1Cur_traffic.f k s a sd) (l, a', sd') ∧ l.length ≤ 41 ∧ a ≤ a' ∧ a' ≤ a + 110 := by
  unfold spec_l1Cur_traffic.f
  obtain ⟨z, a1, s1, e1, _, p1, q1⟩ := among_tells hs hl a sd [3, 6, 12, 30] (by simp) (by omega) (by omega)
  obtain ⟨x, a2, s2, e2, g1, g2, p2, q2⟩ := pick_tells hs hl a1 s1 12 (by omega) (by omega)
  obtain ⟨l, a', sd', hh, l1, l2, l3⟩ := traffic_loop hs hl z x.toNat x a2 s2 [] (by omega) (by omega) (by simp; omega) (by omega) (by omega)
  refine ⟨l, a', sd', Tells.congr (fun k => ?_) hh, l1, by omega, by omega⟩
  rw [e1, Option.bind_some, e2, Option.bind_some]
theorem server_draws {s : List Int} (hs : isBytes s) (hl : s.length ≤ 4294967296) (a sd : Int) (h0 : 0 ≤ a) (h1 : a ≤ 1099511627000) : ∃ r d a' sd', spec_l1Cur_server.f s a sd = some (r, d, a', sd') ∧ a ≤ a' ∧ a' ≤ a + 6 := by
  unfold spec_l1Cur_server.f
  obtain ⟨b, a1, s1, e1, p1, q1⟩ := one_tells hs hl a sd 12 h0 (by omega)
  rw [e1]
  simp only [Option.bind_some]
  cases b
  · obtain ⟨x, a2, s2, e2, _, _, p2, q2⟩ := pick_tells hs hl a1 s1 8 (by omega) (by omega)
    obtain ⟨y, a3, s3, e3, _, _, p3, q3⟩ := pick_tells hs hl a2 s2 6 (by omega) (by omega)
    rw [if_neg (by decide), e2, Option.bind_some, e3, Option.bind_some]
    exact ⟨_, _, a3, s3, rfl, by omega, by omega⟩
  · obtain ⟨x, a2, s2, e2, _, p2, q2⟩ := among_tells hs hl a1 s1 [0, 1, 100, 101] (by simp) (by omega) (by omega)
    obtain ⟨y, a3, s3, e3, _, p3, q3⟩ := among_tells hs hl a2 s2 [-1, 0, 20, 21] (by simp) (by omega) (by omega)
    rw [if_pos rfl, e2, Option.bind_some, e3, Option.bind_some]
    exact ⟨_, _, a3, s3, rfl, by omega, by omega⟩
theorem drawServed_tells {s : List Int} (hs : isBytes s) (hl : s.length ≤ 4294967296) : ∃ r d l, Tells (fun k => spec_DrawServedBy.f k s) (r, d, l) ∧ l.length ≤ 100 := by
  unfold spec_DrawServedBy.f
  obtain ⟨r, d, a1, s1, e1, p1, q1⟩ := server_draws hs hl 0 0 (by omega) (by omega)
  obtain ⟨l, a3, s3, e3, l3, p3, q3⟩ := traffic_draws hs hl a1 s1 (by omega) (by omega)
  rw [e1]
  simp only [Option.bind_some]
  exact ⟨r, d, l, Tells.bind e3 (Tells.now fun k => rfl), by omega⟩
theorem drawBound_tells {s : List Int} (hs : isBytes s) (hl : s.length ≤ 4294967296) : ∃ r d x y, spec_DrawBacklogBound.f s = some (r, d, x, y) := by
  unfold spec_DrawBacklogBound.f
  obtain ⟨r, d, a1, s1, e1, p1, q1⟩ := server_draws hs hl 0 0 (by omega) (by omega)
  obtain ⟨x, y, a2, s2, e2, p2, q2⟩ := bucket_draws hs hl a1 s1 (by omega) (by omega)
  exact ⟨r, d, x, y, by rw [e1]; simp only [Option.bind_some]; rw [e2]; rfl⟩
theorem drawInRow_tells {s : List Int} (hs : isBytes s) (hl : s.length ≤ 4294967296) : ∃ r d x y, spec_DrawInRow.f s = some (r, d, x, y) := by
  unfold spec_DrawInRow.f
  obtain ⟨r, d, a1, s1, e1, p1, q1⟩ := server_draws hs hl 0 0 (by omega) (by omega)
  obtain ⟨x, y, a2, s2, e2, p2, q2⟩ := server_draws hs hl a1 s1 (by omega) (by omega)
  exact ⟨r, d, x, y, by rw [e1]; simp only [Option.bind_some]; rw [e2]; rfl⟩
theorem drawWorst_tells {s : List Int} (hs : isBytes s) (hl : s.length ≤ 4294967296) : ∃ r d n, spec_DrawWorstTraffic.f s = some (r, d, n) := by
  unfold spec_DrawWorstTraffic.f
  obtain ⟨b, a1, s1, e1, p1, q1⟩ := one_tells hs hl 0 0 10 (by omega) (by omega)
  obtain ⟨x, y, a2, s2, e2, p2, q2⟩ := bucket_draws hs hl a1 s1 (by omega) (by omega)
  rw [e1]
  simp only [Option.bind_some]
  cases b
  · obtain ⟨z, a3, s3, e3, g1, g2, p3, q3⟩ := pick_tells hs hl a2 s2 15 (by omega) (by omega)
    exact ⟨x, y, z, by rw [if_neg (by decide), e2]; simp only [Option.bind_some]; rw [e3]; rfl⟩
  · obtain ⟨z, a3, s3, e3, g1, p3, q3⟩ := among_tells hs hl a2 s2 [-1, 0, 40, 41] (by simp) (by omega) (by omega)
    exact ⟨x, y, z, by rw [if_pos rfl, e2]; simp only [Option.bind_some]; rw [e3]; rfl⟩
end Go.Proofs.Ytoeddkfbhjmbmaa.PB
