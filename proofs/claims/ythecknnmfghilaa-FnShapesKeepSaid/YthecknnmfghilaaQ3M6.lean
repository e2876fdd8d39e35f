/- What the program sends; no condition but what each names. -/
import Derived.Test.YthecknnmfghilaaQ3M5
set_option linter.unusedVariables false
set_option linter.unusedSimpArgs false
namespace Go.Proofs.Ythecknnmfghilaa.Ev.Q3
open Go
set_option linter.unusedSimpArgs false
set_option linter.unusedVariables false
set_option maxHeartbeats 1000000
namespace Sh
variable {R D : Int} {t : List Int}
def cumR (t : List Int) (n : Nat) : List Int := (List.range n).map fun j => came t (j + 1)
theorem cumR_length (n : Nat) : (cumR t n).length = n := by simp [cumR]
theorem cumR_at (n j : Nat) (h : j < n) : at? (cumR t n) (j : Int) = some (came t (j + 1)) := by
  rw [at_some (by rw [cumR_length]; exact h)]; simp [cumR]
theorem cumR_succ (n : Nat) : cumR t (n + 1) = cumR t n ++ [came t (n + 1)] := by simp [cumR, List.range_succ]
theorem mostOf_snoc (l : List Int) (x : Int) : ∀ a : Int, mostOf a (l ++ [x]) = if x > mostOf a l then x else mostOf a l := by
  induction l with
  | nil => intro a; rfl
  | cons y l ih => intro a; simp only [List.cons_append, mostOf]; exact ih _
def Pk (R D : Int) (t : List Int) (i : Nat) (x : Int) : Prop := ∃ j k : Nat, k < i ∧ Last R D t j k ∧ x = (k : Int) - (j : Int)

theorem scan_ok (o : Ok R D t) (i n : Nat) (hi : i < 100) (hn : n ≤ t.length) (q : Int) (v : Int × Int) (hx : (if v.1 < q then v.1 else q) = xs R D t i) (p : Int → Prop) (dl : Int) (h : Most p dl) :
    ∃ r, impl_sent_l4 t (gone R D t i) (i : Int) (cumR t n) q v (dl, 0) = some r ∧ Most (fun y => p y ∨ ∃ j : Nat, j < n ∧ Last R D t j i ∧ y = (i : Int) - (j : Int)) r := by
  have hm := o.hm
  have g1 := gone_ok o i
  have g2 := xs_ok o i
  have g3 := goneS (R := R) (D := D) (t := t) i
  have e1 : w64 (gone R D t i + xs R D t i) = gone R D t (i + 1) := by rw [w64_id (by omega) (by omega), g3]
  have e2 : w64 (gone R D t (i + 1) - xs R D t i) = gone R D t i := by rw [w64_id (by omega) (by omega)]; omega
  have key := iter_ex (step := impl_sent_s4 t (gone R D t i) (i : Int) (cumR t n) q v) (fun m x => ∃ (j : Nat) (a : Int), x = (a, (j : Int)) ∧ Most (fun y => p y ∨ ∃ j' : Nat, j' < j ∧ Last R D t j' i ∧ y = (i : Int) - (j' : Int)) a ∧ j ≤ n ∧ m = n - j)
    (fun r => Most (fun y => p y ∨ ∃ j : Nat, j < n ∧ Last R D t j i ∧ y = (i : Int) - (j : Int)) r) (by
      rintro m x ⟨j, a, rfl, h1, h2, rfl⟩
      unfold impl_sent_s4
      simp only [cumR_length, Int.ofNat_lt]
      by_cases c : j < n
      · right
        have j5 : ∀ b, impl_sent_j5 (j : Int) b = some (.inl (b, ((j + 1 : Nat) : Int))) := by
          intro b
          unfold impl_sent_j5
          rw [w64_nat1 (by omega)]
        have no : ¬ Last R D t j i → ∃ s' m, m < n - j ∧ some (Sum.inl (a, ((j + 1 : Nat) : Int)) : (Int × Int) ⊕ Int) = some (.inl s') ∧ ∃ (j : Nat) (a : Int), s' = (a, (j : Int)) ∧ Most (fun y => p y ∨ ∃ j' : Nat, j' < j ∧ Last R D t j' i ∧ y = (i : Int) - (j' : Int)) a ∧ j ≤ n ∧ m = n - j := by
          intro hno
          refine ⟨_, n - (j + 1), by omega, rfl, j + 1, a, rfl, h1.same fun y => ?_, by omega, rfl⟩
          constructor
          · rintro (q1 | ⟨j', q1, q2, q3⟩)
            · exact .inl q1
            · refine .inr ⟨j', Nat.lt_of_le_of_ne (by omega) ?_, q2, q3⟩
              rintro rfl
              exact hno q2
          · rintro (q1 | ⟨j', q1, q2, q3⟩)
            · exact .inl q1
            · exact .inr ⟨j', by omega, q2, q3⟩
        rw [if_pos (by simpa using c), cumR_at n j c, Option.bind_some, tr_at j (by omega), Option.bind_some, hx, e1, e2]
        simp only [Option.bind_some]
        by_cases c1 : ar t j > 0
        · rw [if_pos (by simpa using c1)]
          by_cases c2 : came t (j + 1) ≤ gone R D t (i + 1)
          · rw [if_pos (by simpa using c2)]
            unfold impl_sent_j6
            by_cases c3 : came t (j + 1) > gone R D t i
            · rw [if_pos (by simpa using c3), j5]
              have hl : Last R D t j i := ⟨c1, by omega, c2⟩
              have := (last_lt o hl).2
              rw [w64_id (x := (i : Int) - (j : Int)) (by omega) (by omega)]
              refine ⟨_, n - (j + 1), by omega, rfl, j + 1, _, rfl, h1.more (x := (i : Int) - (j : Int)) (by omega) fun y => ?_, by omega, rfl⟩
              constructor
              · rintro (q1 | ⟨j', q1, q2, q3⟩)
                · exact .inl (.inl q1)
                · by_cases e : j' = j
                  · subst e; exact .inr q3
                  · exact .inl (.inr ⟨j', by omega, q2, q3⟩)
              · rintro ((q1 | ⟨j', q1, q2, q3⟩) | q3)
                · exact .inl q1
                · exact .inr ⟨j', by omega, q2, q3⟩
                · exact .inr ⟨j, by omega, hl, q3⟩
            · rw [if_neg (by simpa using c3), j5]
              exact no fun hl => c3 hl.2.1
          · rw [if_neg (by simpa using c2)]
            unfold impl_sent_j6
            rw [if_neg (by simp), j5]
            exact no fun hl => c2 hl.2.2
        · rw [if_neg (by simpa using c1)]
          unfold impl_sent_j6
          rw [if_neg (by simp), j5]
          exact no fun hl => c1 hl.1
      · left
        obtain rfl : j = n := by omega
        rw [if_neg (by simp)]
        exact ⟨_, rfl, h1⟩) _ (dl, 0) ⟨0, dl, rfl, h.same fun y => ⟨fun hy => hy.elim id fun ⟨j', q1, _⟩ => by omega, .inl⟩, by omega, rfl⟩
  exact key

/-- One tick. -/
theorem tick_ok (o : Ok R D t) (i : Nat) (hi : i < 100) (hc : i < t.length ∨ bk R D t i > 0) (dl : Int) (h : Most (Pk R D t i) dl) :
    ∃ dl', Most (Pk R D t (i + 1)) dl' ∧ impl_sent_s1 t (lv R D t i, R, D, shapeR R D t i, mostOf 0 (leftR R D t i), dl, cumR t (min i t.length), bk R D t i, came t i, gone R D t i, (i : Int)) = some (.inl (lv R D t (i + 1), R, D, shapeR R D t (i + 1), mostOf 0 (leftR R D t (i + 1)), dl', cumR t (min (i + 1) t.length), bk R D t (i + 1), came t (i + 1), gone R D t (i + 1), ((i + 1 : Nat) : Int))) := by
  have hm := o.hm
  have h1 := ok_step o i
  have h2 := ar_ok o i
  have h3 := xs_ok o i
  have h4 := ok_step o (i + 1)
  have hr := o.hr
  have hd := o.hd
  have g1 := gone_ok o i
  have c1 := came_ok o i
  have hxs : (if lv R D t i < bk R D t i + ar t i then lv R D t i else bk R D t i + ar t i) = xs R D t i := by unfold xs; rw [mn_comm]; rfl
  
  obtain ⟨dl', hs1, hs2⟩ := scan_ok o i (min (i + 1) t.length) hi (Nat.min_le_right _ _) (bk R D t i + ar t i) (lv R D t i, lv R D t i) (by exact hxs) (Pk R D t i) dl h
  have hP : Most (Pk R D t (i + 1)) dl' := hs2.same fun y => by
    constructor
    · rintro ⟨j, k, q1, q2, q3⟩
      by_cases e : k = i
      · subst e
        have := last_lt o q2
        exact .inr ⟨j, by omega, q2, q3⟩
      · exact .inl ⟨j, k, by omega, q2, q3⟩
    · rintro (⟨j, k, q1, q2, q3⟩ | ⟨j, q1, q2, q3⟩)
      · exact ⟨j, k, by omega, q2, q3⟩
      · exact ⟨j, i, by omega, q2, q3⟩
  refine ⟨dl', hP, ?_⟩
  have j3 : impl_sent_j3 t (lv R D t i) R D (shapeR R D t i) (mostOf 0 (leftR R D t i)) dl (gone R D t i) (i : Int) (cumR t (min (i + 1) t.length), bk R D t i + ar t i, came t (i + 1)) = some (.inl (lv R D t (i + 1), R, D, shapeR R D t (i + 1), mostOf 0 (leftR R D t (i + 1)), dl', cumR t (min (i + 1) t.length), bk R D t (i + 1), came t (i + 1), gone R D t (i + 1), ((i + 1 : Nat) : Int))) := by
    unfold impl_sent_j3 impl_Bucket_shape_fn1 impl_Bucket_shape_fn2
    simp only [Option.bind_some]
    rw [hxs, app_ok (by rw [shape_length]; simp; omega), Option.bind_some, hs1, Option.bind_some]
    rw [w64_id (x := bk R D t i + ar t i - xs R D t i) (by omega) (by omega), w64_id (x := gone R D t i + xs R D t i) (by omega) (by omega), w64_nat1 (by omega), ← bkS, ← goneS, ← shapeS, w64_id (x := lv R D t i - xs R D t i) (by omega) (by omega), w64_id (x := lv R D t i - xs R D t i + R) (by omega) (by omega), show (if lv R D t i - xs R D t i + R < D then lv R D t i - xs R D t i + R else D) = lv R D t (i + 1) from rfl]
    rw [show (if bk R D t (i + 1) > mostOf 0 (leftR R D t i) then bk R D t (i + 1) else mostOf 0 (leftR R D t i)) = mostOf 0 (leftR R D t (i + 1)) by rw [leftS, mostOf_snoc]]
  have j2 : impl_sent_j2 t (lv R D t i) R D (shapeR R D t i) (mostOf 0 (leftR R D t i)) dl (cumR t (min i t.length)) (bk R D t i) (came t i) (gone R D t i) (i : Int) true = some (.inl (lv R D t (i + 1), R, D, shapeR R D t (i + 1), mostOf 0 (leftR R D t (i + 1)), dl', cumR t (min (i + 1) t.length), bk R D t (i + 1), came t (i + 1), gone R D t (i + 1), ((i + 1 : Nat) : Int))) := by
    unfold impl_sent_j2
    rw [if_pos rfl, if_neg (by simp; omega)]
    by_cases c : i < t.length
    · rw [if_pos (by simpa using c), tr_at i c, Option.bind_some, w64_id (x := came t i + ar t i) (by omega) (by omega), w64_id (x := bk R D t i + ar t i) (by omega) (by omega), show min i t.length = i by omega, app_ok (by rw [cumR_length]; simp; omega), Option.bind_some, ← cameS, ← cumR_succ]
      rw [show min (i + 1) t.length = i + 1 by omega] at j3 ⊢
      exact j3
    · rw [if_neg (by simpa using c), show min i t.length = min (i + 1) t.length by omega]
      have e : came t (i + 1) = came t i := by rw [cameS, ar_out (by omega), Int.add_zero]
      have e2 : bk R D t i + ar t i = bk R D t i := by rw [ar_out (by omega), Int.add_zero]
      rw [e, e2] at j3
      rw [e] 
      exact j3
  unfold impl_sent_s1
  dsimp only
  by_cases c : i < t.length
  · rw [if_pos (by simpa using c)]; exact j2
  · rw [if_neg (by simpa using c), show decide (bk R D t i > 0) = true by simp; omega]; exact j2

theorem lv_const (o : Ok R D t) (h : R = D) (i : Nat) : lv R D t i = R := by
  induction i with
  | zero => rw [lv0, h]
  | succ i ih =>
    have h1 := xs_ok o i
    have h2 := ok_step o i
    rw [lvS]
    unfold mn
    split <;> omega

theorem scan_ok_v1 (o : Ok R D t) (i n : Nat) (hi : i < 100) (hn : n ≤ t.length) (q : Int) (v : Int × Int) (hx : (if v.1 < q then v.1 else q) = xs R D t i) (p : Int → Prop) (dl : Int) (h : Most p dl) :
    ∃ r, impl_sent_v1_l4 t (gone R D t i) (i : Int) (cumR t n) q v (dl, 0) = some r ∧ Most (fun y => p y ∨ ∃ j : Nat, j < n ∧ Last R D t j i ∧ y = (i : Int) - (j : Int)) r := by
  have hm := o.hm
  have g1 := gone_ok o i
  have g2 := xs_ok o i
  have g3 := goneS (R := R) (D := D) (t := t) i
  have e1 : w64 (gone R D t i + xs R D t i) = gone R D t (i + 1) := by rw [w64_id (by omega) (by omega), g3]
  have e2 : w64 (gone R D t (i + 1) - xs R D t i) = gone R D t i := by rw [w64_id (by omega) (by omega)]; omega
  have key := iter_ex (step := impl_sent_v1_s4 t (gone R D t i) (i : Int) (cumR t n) q v) (fun m x => ∃ (j : Nat) (a : Int), x = (a, (j : Int)) ∧ Most (fun y => p y ∨ ∃ j' : Nat, j' < j ∧ Last R D t j' i ∧ y = (i : Int) - (j' : Int)) a ∧ j ≤ n ∧ m = n - j)
    (fun r => Most (fun y => p y ∨ ∃ j : Nat, j < n ∧ Last R D t j i ∧ y = (i : Int) - (j : Int)) r) (by
      rintro m x ⟨j, a, rfl, h1, h2, rfl⟩
      unfold impl_sent_v1_s4
      simp only [cumR_length, Int.ofNat_lt]
      by_cases c : j < n
      · right
        have j5 : ∀ b, impl_sent_v1_j5 (j : Int) b = some (.inl (b, ((j + 1 : Nat) : Int))) := by
          intro b
          unfold impl_sent_v1_j5
          rw [w64_nat1 (by omega)]
        have no : ¬ Last R D t j i → ∃ s' m, m < n - j ∧ some (Sum.inl (a, ((j + 1 : Nat) : Int)) : (Int × Int) ⊕ Int) = some (.inl s') ∧ ∃ (j : Nat) (a : Int), s' = (a, (j : Int)) ∧ Most (fun y => p y ∨ ∃ j' : Nat, j' < j ∧ Last R D t j' i ∧ y = (i : Int) - (j' : Int)) a ∧ j ≤ n ∧ m = n - j := by
          intro hno
          refine ⟨_, n - (j + 1), by omega, rfl, j + 1, a, rfl, h1.same fun y => ?_, by omega, rfl⟩
          constructor
          · rintro (q1 | ⟨j', q1, q2, q3⟩)
            · exact .inl q1
            · refine .inr ⟨j', Nat.lt_of_le_of_ne (by omega) ?_, q2, q3⟩
              rintro rfl
              exact hno q2
          · rintro (q1 | ⟨j', q1, q2, q3⟩)
            · exact .inl q1
            · exact .inr ⟨j', by omega, q2, q3⟩
        rw [if_pos (by simpa using c), cumR_at n j c, Option.bind_some, tr_at j (by omega), Option.bind_some, hx, e1, e2]
        simp only [Option.bind_some]
        by_cases c1 : ar t j > 0
        · rw [if_pos (by simpa using c1)]
          by_cases c2 : came t (j + 1) ≤ gone R D t (i + 1)
          · rw [if_pos (by simpa using c2)]
            unfold impl_sent_v1_j6
            by_cases c3 : came t (j + 1) > gone R D t i
            · rw [if_pos (by simpa using c3), j5]
              have hl : Last R D t j i := ⟨c1, by omega, c2⟩
              have := (last_lt o hl).2
              rw [w64_id (x := (i : Int) - (j : Int)) (by omega) (by omega)]
              refine ⟨_, n - (j + 1), by omega, rfl, j + 1, _, rfl, h1.more (x := (i : Int) - (j : Int)) (by omega) fun y => ?_, by omega, rfl⟩
              constructor
              · rintro (q1 | ⟨j', q1, q2, q3⟩)
                · exact .inl (.inl q1)
                · by_cases e : j' = j
                  · subst e; exact .inr q3
                  · exact .inl (.inr ⟨j', by omega, q2, q3⟩)
              · rintro ((q1 | ⟨j', q1, q2, q3⟩) | q3)
                · exact .inl q1
                · exact .inr ⟨j', by omega, q2, q3⟩
                · exact .inr ⟨j, by omega, hl, q3⟩
            · rw [if_neg (by simpa using c3), j5]
              exact no fun hl => c3 hl.2.1
          · rw [if_neg (by simpa using c2)]
            unfold impl_sent_v1_j6
            rw [if_neg (by simp), j5]
            exact no fun hl => c2 hl.2.2
        · rw [if_neg (by simpa using c1)]
          unfold impl_sent_v1_j6
          rw [if_neg (by simp), j5]
          exact no fun hl => c1 hl.1
      · left
        obtain rfl : j = n := by omega
        rw [if_neg (by simp)]
        exact ⟨_, rfl, h1⟩) _ (dl, 0) ⟨0, dl, rfl, h.same fun y => ⟨fun hy => hy.elim id fun ⟨j', q1, _⟩ => by omega, .inl⟩, by omega, rfl⟩
  exact key

/-- One tick. -/
theorem tick_ok_v1 (o : Ok R D t) (hRD : R = D) (i : Nat) (hi : i < 100) (hc : i < t.length ∨ bk R D t i > 0) (dl : Int) (h : Most (Pk R D t i) dl) :
    ∃ dl', Most (Pk R D t (i + 1)) dl' ∧ impl_sent_v1_s1 t (R, shapeR R D t i, mostOf 0 (leftR R D t i), dl, cumR t (min i t.length), bk R D t i, came t i, gone R D t i, (i : Int)) = some (.inl (R, shapeR R D t (i + 1), mostOf 0 (leftR R D t (i + 1)), dl', cumR t (min (i + 1) t.length), bk R D t (i + 1), came t (i + 1), gone R D t (i + 1), ((i + 1 : Nat) : Int))) := by
  have hm := o.hm
  have h1 := ok_step o i
  have h2 := ar_ok o i
  have h3 := xs_ok o i
  have h4 := ok_step o (i + 1)
  have hr := o.hr
  have hd := o.hd
  have g1 := gone_ok o i
  have c1 := came_ok o i
  have hxs : (if lv R D t i < bk R D t i + ar t i then lv R D t i else bk R D t i + ar t i) = xs R D t i := by unfold xs; rw [mn_comm]; rfl
  have hlv := lv_const o hRD i
  rw [hlv] at hxs
  obtain ⟨dl', hs1, hs2⟩ := scan_ok_v1 o i (min (i + 1) t.length) hi (Nat.min_le_right _ _) (bk R D t i + ar t i) (R, R) (by exact hxs) (Pk R D t i) dl h
  have hP : Most (Pk R D t (i + 1)) dl' := hs2.same fun y => by
    constructor
    · rintro ⟨j, k, q1, q2, q3⟩
      by_cases e : k = i
      · subst e
        have := last_lt o q2
        exact .inr ⟨j, by omega, q2, q3⟩
      · exact .inl ⟨j, k, by omega, q2, q3⟩
    · rintro (⟨j, k, q1, q2, q3⟩ | ⟨j, q1, q2, q3⟩)
      · exact ⟨j, k, by omega, q2, q3⟩
      · exact ⟨j, i, by omega, q2, q3⟩
  refine ⟨dl', hP, ?_⟩
  have j3 : impl_sent_v1_j3 t R (shapeR R D t i) (mostOf 0 (leftR R D t i)) dl (gone R D t i) (i : Int) (cumR t (min (i + 1) t.length), bk R D t i + ar t i, came t (i + 1)) = some (.inl (R, shapeR R D t (i + 1), mostOf 0 (leftR R D t (i + 1)), dl', cumR t (min (i + 1) t.length), bk R D t (i + 1), came t (i + 1), gone R D t (i + 1), ((i + 1 : Nat) : Int))) := by
    unfold impl_sent_v1_j3 impl_LeakOf_fn1 impl_LeakOf_fn2
    simp only [Option.bind_some]
    rw [hxs, app_ok (by rw [shape_length]; simp; omega), Option.bind_some, hs1, Option.bind_some]
    rw [w64_id (x := bk R D t i + ar t i - xs R D t i) (by omega) (by omega), w64_id (x := gone R D t i + xs R D t i) (by omega) (by omega), w64_nat1 (by omega), ← bkS, ← goneS, ← shapeS]
    rw [show (if bk R D t (i + 1) > mostOf 0 (leftR R D t i) then bk R D t (i + 1) else mostOf 0 (leftR R D t i)) = mostOf 0 (leftR R D t (i + 1)) by rw [leftS, mostOf_snoc]]
  have j2 : impl_sent_v1_j2 t R (shapeR R D t i) (mostOf 0 (leftR R D t i)) dl (cumR t (min i t.length)) (bk R D t i) (came t i) (gone R D t i) (i : Int) true = some (.inl (R, shapeR R D t (i + 1), mostOf 0 (leftR R D t (i + 1)), dl', cumR t (min (i + 1) t.length), bk R D t (i + 1), came t (i + 1), gone R D t (i + 1), ((i + 1 : Nat) : Int))) := by
    unfold impl_sent_v1_j2
    rw [if_pos rfl, if_neg (by simp; omega)]
    by_cases c : i < t.length
    · rw [if_pos (by simpa using c), tr_at i c, Option.bind_some, w64_id (x := came t i + ar t i) (by omega) (by omega), w64_id (x := bk R D t i + ar t i) (by omega) (by omega), show min i t.length = i by omega, app_ok (by rw [cumR_length]; simp; omega), Option.bind_some, ← cameS, ← cumR_succ]
      rw [show min (i + 1) t.length = i + 1 by omega] at j3 ⊢
      exact j3
    · rw [if_neg (by simpa using c), show min i t.length = min (i + 1) t.length by omega]
      have e : came t (i + 1) = came t i := by rw [cameS, ar_out (by omega), Int.add_zero]
      have e2 : bk R D t i + ar t i = bk R D t i := by rw [ar_out (by omega), Int.add_zero]
      rw [e, e2] at j3
      rw [e] 
      exact j3
  unfold impl_sent_v1_s1
  dsimp only
  by_cases c : i < t.length
  · rw [if_pos (by simpa using c)]; exact j2
  · rw [if_neg (by simpa using c), show decide (bk R D t i > 0) = true by simp; omega]; exact j2

end Sh
end Go.Proofs.Ythecknnmfghilaa.Ev.Q3
