/- The law on shapes comes to true; no condition but that bytes are bytes. -/
import Derived.Test.YthecknnmfghilaaQ3M8
set_option linter.unusedVariables false
set_option linter.unusedSimpArgs false
namespace Go.Proofs.Ythecknnmfghilaa.Ev.Q3
open Go
set_option linter.unusedSimpArgs false
set_option linter.unusedVariables false
set_option maxHeartbeats 2000000
namespace Sh
variable {R D : Int} {t : List Int}
/-! ### draws -/
theorem traffic_loop {s : List Int} (hs : Bytes s) {K : Int} (hK : K ≤ 1099511627000) (v46 : Int × (List Int × Int × Int)) : ∀ (n : Nat) (x : List Int × Int × Int × List Int × Int),
    (Cur s (x.1, x.2.1, x.2.2.1) (K - 4 * (n : Int)) ∧ x.2.2.2.2 = (n : Int) ∧ x.2.2.2.1.length + n ≤ 12) → ∃ r, iter (spec_l1Cur_traffic_s1 v46) x = some r ∧ Cur s (r.1, r.2.1, r.2.2.1) K ∧ r.2.2.2.length ≤ 12 := by
  refine iter_ex _ _ ?_
  rintro n ⟨a, b, c, l, x⟩ ⟨h1, h2, h3⟩
  dsimp only at h1 h2 h3 ⊢
  unfold spec_l1Cur_traffic_s1
  dsimp only
  by_cases hx : x > 0
  · right
    obtain ⟨m, rfl⟩ : ∃ m, n = m + 1 := ⟨n - 1, by omega⟩
    obtain ⟨v, c1, e, hc⟩ := one_ok hs h1 (by omega) 3
    have j2 : ∀ (c2 : List Int × Int × Int) (y : Int), Cur s c2 (K - 4 * (m : Int)) → ∃ s' m', m' < m + 1 ∧ spec_l1Cur_traffic_j2 l x (c2.1, c2.2.1, c2.2.2, y) = some (.inl s') ∧ Cur s (s'.1, s'.2.1, s'.2.2.1) (K - 4 * (m' : Int)) ∧ s'.2.2.2.2 = (m' : Int) ∧ s'.2.2.2.1.length + m' ≤ 12 := by
      intro c2 y hc2
      unfold spec_l1Cur_traffic_j2
      dsimp only
      rw [app_ok (by simp; omega), Option.bind_some]
      refine ⟨_, m, by omega, rfl, hc2, ?_, ?_⟩
      · dsimp only; rw [w64_id (by omega) (by omega)]; omega
      · dsimp only; simp; omega
    rw [if_pos (by simpa using hx), e, Option.bind_some]
    split
    · obtain ⟨w, c2, e2, hc2, _⟩ := pick_ok hs hc (by omega) v46.1
      rw [e2, Option.bind_some]
      exact j2 c2 w (hc2.mono (by omega))
    · exact j2 c1 0 (hc.mono (by omega))
  · left
    rw [if_neg (by simpa using hx)]
    exact ⟨_, rfl, h1.mono (by omega), by dsimp only; omega⟩
theorem traffic_ok {s : List Int} (hs : Bytes s) {c : List Int × Int × Int} {k : Int} (hc : Cur s c k) (hk : k ≤ 1099511620000) : ∃ l c', spec_l1Cur_traffic c = some (l, c') ∧ l.length ≤ 50 := by
  unfold spec_l1Cur_traffic
  obtain ⟨v1, c1, e1, hc1, _⟩ := among_ok hs hc (by omega) [(3 : Int), 6, 12, 30] (by simp) (by simp)
  rw [e1, Option.bind_some]
  obtain ⟨v2, c2, e2, hc2, p1, p2, p3⟩ := pick_ok hs hc1 (by omega) 12
  have hv2 := p2 (by omega)
  dsimp only
  rw [e2, Option.bind_some]
  obtain ⟨⟨a, b, cc, l⟩, e3, hc3, hl⟩ := traffic_loop hs (K := k + 100) (by omega) (v1, c1) v2.toNat (c2.1, c2.2.1, c2.2.2, [], v2) ⟨hc2.mono (by omega), by dsimp only; omega, by simp; omega⟩
  unfold spec_l1Cur_traffic_l1
  rw [e3, Option.bind_some]
  dsimp only at hc3 hl ⊢
  obtain ⟨v4, c4, e4, hc4, _⟩ := pick_ok hs hc3 (by omega) 14
  rw [e4, Option.bind_some]
  unfold spec_l1Cur_traffic_j3
  dsimp only
  split
  · obtain ⟨v5, c5, e5, hc5, _⟩ := among_ok hs hc4 (by omega) [(-1 : Int), 1000, 1001, 4611686018427387904] (by simp) (by simp)
    rw [e5, Option.bind_some, app_ok (by simp; omega), Option.bind_some]
    exact ⟨_, _, rfl, by simp; omega⟩
  · split
    · obtain ⟨v5, c5, e5, hc5, q1, q2, q3⟩ := pick_ok hs hc4 (by omega) 2
      have := q2 (by omega)
      rw [e5, Option.bind_some, w64_id (x := 40 + v5) (by omega) (by omega), mk_ok (by omega) (by omega) (by omega), Option.bind_some]
      exact ⟨_, _, rfl, by simp; omega⟩
    · exact ⟨_, _, rfl, by omega⟩
theorem bucket_ok {s : List Int} (hs : Bytes s) {c : List Int × Int × Int} {k : Int} (hc : Cur s c k) (hk : k ≤ 1099511620000) : ∃ b c', spec_l1Cur_bucket c = some (b, c') ∧ Cur s c' (k + 6) := by
  unfold spec_l1Cur_bucket
  obtain ⟨v1, c1, e1, hc1⟩ := one_ok hs hc (by omega) 12
  rw [e1, Option.bind_some]
  split
  · obtain ⟨v2, c2, e2, hc2, _⟩ := among_ok hs hc1 (by omega) [(0 : Int), 1, 100, 101, -1] (by simp) (by simp)
    obtain ⟨v3, c3, e3, hc3, _⟩ := among_ok hs hc2 (by omega) [(0 : Int), 1, 1000, 1001, 4611686018427387904] (by simp) (by simp)
    dsimp only
    rw [e2, Option.bind_some]
    dsimp only
    rw [e3, Option.bind_some]
    exact ⟨_, _, rfl, hc3.mono (by omega)⟩
  · obtain ⟨v2, c2, e2, hc2, _⟩ := pick_ok hs hc1 (by omega) 6
    obtain ⟨v3, c3, e3, hc3, _⟩ := pick_ok hs hc2 (by omega) 20
    dsimp only
    rw [e2, Option.bind_some]
    dsimp only
    rw [e3, Option.bind_some]
    exact ⟨_, _, rfl, hc3.mono (by omega)⟩
theorem cur0 (s : List Int) : Cur s (s, 0, 0) 0 := ⟨rfl, Int.le_refl _, Int.le_refl _⟩
theorem drawShape_ok {s : List Int} (hs : Bytes s) : ∃ R D t, spec_DrawShapeOf s = some ((R, D), t) ∧ t.length ≤ 50 := by
  unfold spec_DrawShapeOf
  obtain ⟨⟨R, D⟩, c1, e1, hc1⟩ := bucket_ok hs (cur0 s) (by omega)
  rw [e1, Option.bind_some]
  obtain ⟨l, c2, e2, hl⟩ := traffic_ok hs hc1 (by omega)
  dsimp only
  rw [e2, Option.bind_some]
  exact ⟨R, D, l, rfl, hl⟩
theorem drawLeak_ok {s : List Int} (hs : Bytes s) : ∃ R t, spec_DrawLeakOf s = some (R, t) ∧ t.length ≤ 50 := by
  unfold spec_DrawLeakOf
  obtain ⟨v1, c1, e1, hc1⟩ := one_ok hs (cur0 s) (by omega) 10
  rw [e1, Option.bind_some]
  split
  · obtain ⟨v2, c2, e2, hc2, _⟩ := among_ok hs hc1 (by omega) [(0 : Int), 100, 101] (by simp) (by simp)
    obtain ⟨l, c3, e3, hl⟩ := traffic_ok hs hc2 (by omega)
    dsimp only
    rw [e2, Option.bind_some]
    dsimp only
    rw [e3, Option.bind_some]
    exact ⟨_, _, rfl, hl⟩
  · obtain ⟨v2, c2, e2, hc2, _⟩ := pick_ok hs hc1 (by omega) 8
    obtain ⟨l, c3, e3, hl⟩ := traffic_ok hs hc2 (by omega)
    dsimp only
    rw [e2, Option.bind_some]
    dsimp only
    rw [e3, Option.bind_some]
    exact ⟨_, _, rfl, hl⟩

/-! ### the law's parts -/
theorem okB_of (o : Ok R D t) : okB R D t = true := by
  simp only [okB, trB, Bool.and_eq_true, decide_eq_true_eq, inB_iff]
  exact ⟨⟨o.hr, o.hd⟩, o.hm, List.all_eq_true.2 fun x hx => inB_iff.2 (o.ht x hx)⟩
theorem shapeOf_ends (o : Ok R D t) {N : Nat} (hN : N ≤ 100) (he : Ends R D t N) : impl_ShapeOf (R, D) t = some (shapeR R D t N, true) := by
  unfold impl_ShapeOf impl_shaped impl_Bucket_shape
  have := o.hm
  rw [isShaped_eq R D t (by omega), okB_of o]
  obtain ⟨v, c, h1, _⟩ := sent_ends o hN he
  simp only [Option.bind_some, Bool.not_true, Bool.false_eq_true, if_false]
  rw [h1]
  rfl
theorem shape_ok' (o : Ok R D t) {N : Nat} (h : trB (shapeR R D t N) = true) : Ok R D (shapeR R D t N) ∧ N ≤ 40 := by
  simp only [trB, Bool.and_eq_true, decide_eq_true_eq] at h
  have := h.1
  rw [shape_length] at this
  exact ⟨⟨o.hr, o.hd, shape_in o N, h.1⟩, this⟩
theorem shape_twice (o : Ok R D t) {N : Nat} (h : trB (shapeR R D t N) = true) : impl_ShapeOf (R, D) (shapeR R D t N) = some (shapeR R D t N, true) := by
  obtain ⟨o2, hN⟩ := shape_ok' o h
  have hs := shape_again o N
  have he : Ends R D (shapeR R D t N) N := ⟨by rw [shape_length]; omega, (hs N (Nat.le_refl _)).1, fun i hi => .inl (by rw [shape_length]; exact hi)⟩
  rw [shapeOf_ends o2 (by omega) he]
  refine congrArg some (Prod.ext ?_ rfl)
  refine List.map_congr_left fun i hi => ?_
  have := List.mem_range.1 hi
  exact (hs i (by omega)).2.2 this
theorem keeps_shape (o : Ok R D t) {N : Nat} (h : trB (shapeR R D t N) = true) : impl_KeepsBucket (R, D) (shapeR R D t N) = some (true, true) := by
  obtain ⟨o2, hN⟩ := shape_ok' o h
  refine keeps_of _ (okB_of o2) (levels_keep _ o2.hr o2.hd o2.ht o2.hm fun i hi => ?_)
  rw [shape_length] at hi
  rw [ar_shape hi, lk_shape i (by omega)]
  exact (xs_ok o i).2.1
theorem keeps_more (o : Ok R D t) {N i : Nat} (h : trB (shapeR R D t N) = true) (hi : i < N) (hb : bk R D t (i + 1) > 0) (hx : xs R D t i < 1000) :
    impl_KeepsBucket (R, D) (((shapeR R D t N).take (i + 1)).set i (xs R D t i + 1)) = some (false, true) := by
  obtain ⟨o2, hN⟩ := shape_ok' o h
  have hxi := xs_ok o i
  have hlen : (((shapeR R D t N).take (i + 1)).set i (xs R D t i + 1)).length = i + 1 := by simp [shape_length]; omega
  have hin : ∀ x ∈ ((shapeR R D t N).take (i + 1)).set i (xs R D t i + 1), 0 ≤ x ∧ x ≤ 1000 := by
    intro x hx'
    rcases List.mem_or_eq_of_mem_set hx' with h | h
    · exact shape_in o N x (List.mem_of_mem_take h)
    · omega
  have o3 : Ok R D (((shapeR R D t N).take (i + 1)).set i (xs R D t i + 1)) := ⟨o.hr, o.hd, hin, by omega⟩
  have har : ∀ j, j < i → ar (((shapeR R D t N).take (i + 1)).set i (xs R D t i + 1)) j = xs R D t j := by
    intro j hj
    unfold ar
    rw [List.getD_eq_getElem?_getD, List.getElem?_set_ne (by omega), List.getElem?_take_of_lt (by omega)]
    simp [shapeR, show j < N by omega]
  have hlk : ∀ j, j ≤ i → lk R D (((shapeR R D t N).take (i + 1)).set i (xs R D t i + 1)) j = lv R D t j := by
    intro j
    induction j with
    | zero => intro _; rfl
    | succ j ih => intro hj; simp only [lk]; rw [ih (by omega), har j (by omega), lvS]
  have hai : ar (((shapeR R D t N).take (i + 1)).set i (xs R D t i + 1)) i = xs R D t i + 1 := by
    unfold ar
    rw [List.getD_eq_getElem?_getD, List.getElem?_set_self (by simp [shape_length]; omega)]; rfl
  refine keeps_of _ (okB_of o3) (levels_break _ o.hr o.hd hin (by omega) i (by omega) (fun j hj => ?_) ?_)
  · rw [har j hj, hlk j (by omega)]
    exact (xs_ok o j).2.1
  · rw [hai, hlk i (Nat.le_refl _), full o i hb]
    omega

theorem walk_left (o : Ok R D t) {N : Nat} (hN : N ≤ 100) : laws_FnShapesKeep_l8 ((R, D), t) (shapeR R D t N, true) (mostOf 0 (leftR R D t N), true) (0, 0, 0, 0) = some (.inl (mostOf 0 (leftR R D t N))) := by
  have hm := o.hm
  refine iter_to (step := laws_FnShapesKeep_s8 ((R, D), t) (shapeR R D t N, true) (mostOf 0 (leftR R D t N), true)) (fun i => (came t i, gone R D t i, mostOf 0 (leftR R D t i), (i : Int))) N ?_ ?_
  · intro i hi
    have c1 := came_ok o i
    have g1 := gone_ok o i
    have a1 := ar_ok o i
    have x1 := xs_ok o i
    have b1 := ok_step o (i + 1)
    have cg := came_gone (R := R) (D := D) (t := t) (i + 1)
    have cS := cameS (t := t) i
    have gS := goneS (R := R) (D := D) (t := t) i
    have hle := left_le (R := R) (D := D) (t := t) N i hi
    have j10 : laws_FnShapesKeep_j10 (mostOf 0 (leftR R D t N), true) (gone R D t i) (mostOf 0 (leftR R D t i)) (i : Int) (xs R D t i) (came t (i + 1)) = some (.inl (came t (i + 1), gone R D t (i + 1), mostOf 0 (leftR R D t (i + 1)), ((i + 1 : Nat) : Int))) := by
      have e1 : w64 (gone R D t i + xs R D t i) = gone R D t (i + 1) := by rw [w64_id (by omega) (by omega), gS]
      have e2 : w64 (came t (i + 1) - gone R D t (i + 1)) = bk R D t (i + 1) := by rw [w64_id (by omega) (by omega)]; omega
      unfold laws_FnShapesKeep_j10
      rw [e1, e2, if_neg (by simp; omega), show decide (bk R D t (i + 1) > mostOf 0 (leftR R D t N)) = false by simp; omega]
      unfold laws_FnShapesKeep_j11
      rw [e1, e2, if_neg (by simp), leftS, mostOf_snoc]
      unfold laws_FnShapesKeep_j9
      by_cases c : bk R D t (i + 1) > mostOf 0 (leftR R D t i)
      · rw [if_pos (by simpa using c), if_pos c, w64_nat1 (by omega)]
      · rw [if_neg (by simpa using c), if_neg c, w64_nat1 (by omega)]
    unfold laws_FnShapesKeep_s8
    simp only [shape_length, Int.ofNat_lt, hi, decide_true, if_true, shape_at N i hi, Option.bind_some]
    by_cases c : i < t.length
    · rw [if_pos (by simpa using c), tr_at i c, Option.bind_some, w64_id (x := came t i + ar t i) (by omega) (by omega), ← cS]
      exact j10
    · rw [if_neg (by simpa using c), show came t i = came t (i + 1) by rw [cS, ar_out (by omega), Int.add_zero]]
      exact j10
  · simp [laws_FnShapesKeep_s8, shape_length]

theorem walk_more (o : Ok R D t) {N : Nat} (hN : N ≤ 100) (h : trB (shapeR R D t N) = true) : laws_FnShapesKeep_l15 ((R, D), t) (shapeR R D t N, true) (0, 0, 0) = some (.inl ()) := by
  have hm := o.hm
  refine iter_to (step := laws_FnShapesKeep_s15 ((R, D), t) (shapeR R D t N, true)) (fun i => (came t i, gone R D t i, (i : Int))) N ?_ ?_
  · intro i hi
    have c1 := came_ok o i
    have g1 := gone_ok o i
    have a1 := ar_ok o i
    have x1 := xs_ok o i
    have b1 := ok_step o (i + 1)
    have cg := came_gone (R := R) (D := D) (t := t) (i + 1)
    have cS := cameS (t := t) i
    have gS := goneS (R := R) (D := D) (t := t) i
    have e1 : w64 (gone R D t i + xs R D t i) = gone R D t (i + 1) := by rw [w64_id (by omega) (by omega), gS]
    have j16 : laws_FnShapesKeep_j16 (i : Int) (came t (i + 1), gone R D t (i + 1)) = some (.inl (came t (i + 1), gone R D t (i + 1), ((i + 1 : Nat) : Int))) := by
      unfold laws_FnShapesKeep_j16
      dsimp only
      rw [w64_nat1 (by omega)]
    have j17 : laws_FnShapesKeep_j17 ((R, D), t) (shapeR R D t N, true) (gone R D t i) (i : Int) (xs R D t i) (came t (i + 1)) = some (.inl (came t (i + 1), gone R D t (i + 1), ((i + 1 : Nat) : Int))) := by
      unfold laws_FnShapesKeep_j17
      rw [e1]
      by_cases c : came t (i + 1) > gone R D t (i + 1)
      · rw [if_pos (by simpa using c)]
        unfold laws_FnShapesKeep_j18
        by_cases c2 : xs R D t i < 1000
        · rw [if_pos (by simpa using c2)]
          dsimp only
          have hl : (shapeR R D t N).length = N := shape_length N
          rw [w64_nat1 (by omega), sub_ok (by omega) (by omega) (by rw [hl]; omega), Option.bind_some]
          simp only [Int.toNat_zero, List.drop_zero, Int.toNat_natCast, Nat.sub_zero]
          rw [app_ok (by simp; omega), Option.bind_some, List.nil_append]
          have hat : at? ((shapeR R D t N).take (i + 1)) (i : Int) = some (xs R D t i) := by
            rw [at_eq, List.getElem?_take_of_lt (by omega), ← at_eq, shape_at N i hi]
          rw [hat, Option.bind_some, w64_id (x := xs R D t i + 1) (by omega) (by omega), keeps_more o h hi (by omega) c2, Option.bind_some]
          unfold laws_FnShapesKeep_j19
          rw [e1]
          simp only [Bool.not_true, Bool.false_eq_true, if_false]
          exact j16
        · rw [if_neg (by simpa using c2), e1]
          exact j16
      · rw [if_neg (by simpa using c)]
        unfold laws_FnShapesKeep_j18
        rw [if_neg (by simp), e1]
        exact j16
    unfold laws_FnShapesKeep_s15
    simp only [shape_length, Int.ofNat_lt, hi, decide_true, if_true, shape_at N i hi, Option.bind_some]
    by_cases c : i < t.length
    · rw [if_pos (by simpa using c), tr_at i c, Option.bind_some, w64_id (x := came t i + ar t i) (by omega) (by omega), ← cS]
      exact j17
    · rw [if_neg (by simpa using c), show came t i = came t (i + 1) by rw [cS, ar_out (by omega), Int.add_zero]]
      exact j17
  · simp [laws_FnShapesKeep_s15, shape_length]

theorem sums (o : Ok R D t) {N : Nat} (hN : N ≤ 100) (he : Ends R D t N) : laws_kSum (shapeR R D t N) = some t.sum ∧ laws_kSum t = some t.sum := by
  have hm := o.hm
  constructor
  · rw [kSum_eq (M := 1000) (by omega) _ (by rw [shape_length]; omega) (by omega) (shape_in o N), shape_sum, gone_end he]
  · exact kSum_eq (M := 1000) (by omega) t (by omega) (by omega) o.ht

theorem leak_part (p1 : List Int) (hp : Bytes p1) : laws_FnShapesKeep_j2 p1 () = some true := by
  obtain ⟨R, t, e, hl⟩ := drawLeak_ok hp
  unfold laws_FnShapesKeep_j2
  rw [e, Option.bind_some]
  dsimp only
  rcases leak_told R t (by omega) with ⟨h1, h2⟩ | ⟨N, o, hN, he, h1, h2⟩
  · rw [h1, h2]
    simp only [Option.bind_some, beq_self_eq_true, Bool.not_true, Bool.false_eq_true, if_false, kSame_self [] (by simp)]
    unfold laws_FnShapesKeep_j3 laws_FnShapesKeep_j4
    simp
  · rw [h1, h2]
    have hlen : (shapeR R R t N).length ≤ 1000000 := by rw [shape_length]; omega
    simp only [Option.bind_some, beq_self_eq_true, Bool.not_true, Bool.false_eq_true, if_false, kSame_self _ hlen]
    unfold laws_FnShapesKeep_j3
    obtain ⟨s1, s2⟩ := sums o hN he
    simp only [Bool.false_eq_true, if_false, if_true, s1, s2, Option.bind_some, bne_self_eq_false, kMost_eq _ hlen]
    have hmost : mostOf 0 (shapeR R R t N) ≤ R := mostOf_le R _ 0 (by have := o.hr; omega) fun x hx => by
      simp only [shapeR, List.mem_map] at hx
      obtain ⟨i, _, rfl⟩ := hx
      have h1 := (xs_ok o i).2.1
      rw [lv_const o rfl i] at h1
      exact h1
    rw [show decide (mostOf 0 (shapeR R R t N) > R) = false by simp; omega]
    unfold laws_FnShapesKeep_j5
    simp only [Bool.false_eq_true, if_false, shapeOf_ends o hN he, Option.bind_some, Bool.not_true, kSame_self _ hlen]
    unfold laws_FnShapesKeep_j6 laws_FnShapesKeep_j4
    simp

theorem shapes_law (p0 p1 : List Int) (h0 : ∀ x ∈ p0, 0 ≤ x ∧ x < 256) (h1 : ∀ x ∈ p1, 0 ≤ x ∧ x < 256) : laws_FnShapesKeep p0 p1 = some true := by
  have hbig : ∃ b, laws_big p0 p1 = some b ∧ (b = false → Bytes p0 ∧ Bytes p1) := by
    unfold laws_big
    by_cases c : (p0.length : Int) > 1048576
    · rw [if_pos (by simpa using c)]
      exact ⟨true, rfl, by simp⟩
    · rw [if_neg (by simpa using c)]
      refine ⟨_, rfl, fun hb => ?_⟩
      rw [w64_id (by omega) (by omega)] at hb
      simp at hb
      exact ⟨⟨h0, by omega⟩, ⟨h1, by omega⟩⟩
  obtain ⟨b, hb, hB⟩ := hbig
  unfold laws_FnShapesKeep
  rw [hb, Option.bind_some]
  cases b
  case true => rfl
  obtain ⟨B0, B1⟩ := hB rfl
  obtain ⟨R, D, t, e, hl⟩ := drawShape_ok B0
  have hleak := leak_part p1 B1
  simp only [Bool.false_eq_true, if_false, e, Option.bind_some]
  rcases told R D t (by omega) with ⟨q1, q2, q3, q4, q5, q6⟩ | ⟨N, v, o, hN, he, hv, q1, q2, q3, q4, q5, q6⟩
  · simp only [q1, q2, q3, q4, q5, q6, Option.bind_some, beq_self_eq_true, Bool.not_true, Bool.false_eq_true, if_false, kSame_self [] (by simp), bne_self_eq_false]
    unfold laws_FnShapesKeep_j1
    simp only [Bool.false_eq_true, if_false]
    exact hleak
  · have hlen : (shapeR R D t N).length ≤ 1000000 := by rw [shape_length]; omega
    simp only [q1, q2, q3, q4, q5, q6, Option.bind_some, beq_self_eq_true, Bool.not_true, Bool.false_eq_true, if_false, kSame_self _ hlen, bne_self_eq_false]
    unfold laws_FnShapesKeep_j1
    obtain ⟨s1, s2⟩ := sums o hN he
    have he1 := he.1
    simp only [Bool.false_eq_true, if_false, if_true, s1, s2, Option.bind_some, bne_self_eq_false, shape_length]
    rw [show decide ((N : Int) < (t.length : Int)) = false by simp; omega]
    unfold laws_FnShapesKeep_j7
    simp only [Bool.false_eq_true, if_false, walk_left o hN, Option.bind_some, keeps_traffic o he (okB_of o), bne_self_eq_false, if_true, beq_self_eq_true, Bool.not_true]
    rw [delay_zero o he hv]
    simp only [beq_self_eq_true, Bool.not_true]
    have h13 : laws_FnShapesKeep_j13 p1 ((R, D), t) (shapeR R D t N, true) () = some true := by
      unfold laws_FnShapesKeep_j13
      dsimp only
      have h14 : ∀ b, (b = true → trB (shapeR R D t N) = true) → laws_FnShapesKeep_j14 p1 ((R, D), t) (shapeR R D t N, true) b = some true := by
        intro b hb
        unfold laws_FnShapesKeep_j14
        cases b
        · simp only [Bool.false_eq_true, if_false]; exact hleak
        · simp only [if_true, walk_more o hN (hb rfl), Option.bind_some]; exact hleak
      split
      · rw [isTraffic_eq _ hlen, Option.bind_some]
        exact h14 _ id
      · exact h14 false (by simp)
    unfold laws_FnShapesKeep_j12
    simp only [Bool.false_eq_true, if_false, isTraffic_eq _ hlen, Option.bind_some]
    cases c : trB (shapeR R D t N)
    · simp only [Bool.false_eq_true, if_false]; exact h13
    · simp only [if_true, keeps_shape o c, shape_twice o c, Option.bind_some, Bool.not_true, Bool.false_eq_true, if_false, kSame_self _ hlen]
      unfold laws_FnShapesKeep_j20
      simp only [Bool.false_eq_true, if_false]
      exact h13
end Sh
end Go.Proofs.Ythecknnmfghilaa.Ev.Q3
