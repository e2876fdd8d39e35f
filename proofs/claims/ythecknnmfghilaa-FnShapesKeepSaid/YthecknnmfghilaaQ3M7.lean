/- Shapes, backlogs, delays and leaks: what the program and the reference tell; no condition but lengths. -/
import Derived.Test.YthecknnmfghilaaQ3M6
set_option linter.unusedVariables false
set_option linter.unusedSimpArgs false
namespace Go.Proofs.Ythecknnmfghilaa.Ev.Q3
open Go
set_option linter.unusedSimpArgs false
set_option linter.unusedVariables false
set_option maxHeartbeats 1000000
namespace Sh
variable {R D : Int} {t : List Int}
theorem pk_all (o : Ok R D t) {N : Nat} (he : Ends R D t N) (y : Int) : All R D t y ↔ Pk R D t N y := by
  constructor
  · rintro ⟨j, k, q1, q2⟩
    refine ⟨j, k, Nat.lt_of_not_le fun c => ?_, q1, q2⟩
    have h1 := gone_mono o c
    have h2 := gone_end he
    have h3 := came_mono o (show j + 1 ≤ t.length from (last_lt o q1).1)
    rw [came_all (Nat.le_refl _)] at h3
    have := q1.2.1
    omega
  · rintro ⟨j, k, _, q1, q2⟩
    exact ⟨j, k, q1, q2⟩
theorem sent_ends (o : Ok R D t) {N : Nat} (hN : N ≤ 100) (he : Ends R D t N) : ∃ v c, impl_sent t D (R, D) = some (((shapeR R D t N, mostOf 0 (leftR R D t N), v), true), c) ∧ Most (All R D t) v := by
  have key := iter_ex (step := impl_sent_s1 t) (fun m x => ∃ (i : Nat) (dl : Int), x = (lv R D t i, R, D, shapeR R D t i, mostOf 0 (leftR R D t i), dl, cumR t (min i t.length), bk R D t i, came t i, gone R D t i, (i : Int)) ∧ Most (Pk R D t i) dl ∧ i ≤ N ∧ m = N - i)
    (fun r => ∃ dl, r = .inl (lv R D t N, R, D, shapeR R D t N, mostOf 0 (leftR R D t N), dl) ∧ Most (Pk R D t N) dl) (by
      rintro m x ⟨i, dl, rfl, h1, h2, rfl⟩
      by_cases c : i < N
      · right
        obtain ⟨dl', q1, q2⟩ := tick_ok o i (by omega) (he.2.2 i c) dl h1
        exact ⟨_, N - (i + 1), by omega, q2, i + 1, dl', rfl, q1, by omega, rfl⟩
      · left
        obtain rfl : i = N := by omega
        have e1 := he.1
        have e2 := he.2.1
        refine ⟨_, ?_, dl, rfl, h1⟩
        unfold impl_sent_s1
        dsimp only
        rw [if_neg (by simp; omega), e2]
        rfl) _ (D, R, D, [], 0, 0, [], 0, 0, 0, 0) ⟨0, 0, by simp [lv0, bk0, shapeR, leftR, cumR, came, gone, mostOf], .start (by rintro x ⟨j, k, q, _⟩; omega), by omega, rfl⟩
  obtain ⟨r, h1, dl, rfl, h2⟩ := key
  unfold impl_sent impl_sent_l1
  dsimp only
  rw [h1]
  exact ⟨dl, _, rfl, h2.same (pk_all o he)⟩
theorem sent_never (o : Ok R D t) (h : ∀ i, i ≤ 100 → i < t.length ∨ bk R D t i > 0) : ∃ c, impl_sent t D (R, D) = some ((([], 0, 0), false), c) := by
  have key := iter_ex (step := impl_sent_s1 t) (fun m x => ∃ (i : Nat) (dl : Int), x = (lv R D t i, R, D, shapeR R D t i, mostOf 0 (leftR R D t i), dl, cumR t (min i t.length), bk R D t i, came t i, gone R D t i, (i : Int)) ∧ Most (Pk R D t i) dl ∧ i ≤ 100 ∧ m = 100 - i)
    (fun r => ∃ c, r = .inr ((([], 0, 0), false), c)) (by
      rintro m x ⟨i, dl, rfl, h1, h2, rfl⟩
      by_cases c : i < 100
      · right
        obtain ⟨dl', q1, q2⟩ := tick_ok o i (by omega) (h i (by omega)) dl h1
        exact ⟨_, 100 - (i + 1), by omega, q2, i + 1, dl', rfl, q1, by omega, rfl⟩
      · left
        obtain rfl : i = 100 := by omega
        have hm := o.hm
        have h3 := h 100 (by omega)
        refine ⟨_, ?_, (lv R D t 100, (R, D)), rfl⟩
        unfold impl_sent_s1 impl_sent_j2
        dsimp only
        rw [if_neg (by simp; omega), show decide (bk R D t 100 > 0) = true by simp; omega, if_pos rfl, if_pos (by simp)]) _ (D, R, D, [], 0, 0, [], 0, 0, 0, 0) ⟨0, 0, by simp [lv0, bk0, shapeR, leftR, cumR, came, gone, mostOf], .start (by rintro x ⟨j, k, q, _⟩; omega), by omega, rfl⟩
  obtain ⟨r, h1, c, rfl⟩ := key
  unfold impl_sent impl_sent_l1
  dsimp only
  rw [h1]
  exact ⟨c, rfl⟩
theorem sent1_ends (o : Ok R R t) {N : Nat} (hN : N ≤ 100) (he : Ends R R t N) : ∃ a c, impl_sent_v1 t R = some (((shapeR R R t N, a), true), c) := by
  have key := iter_ex (step := impl_sent_v1_s1 t) (fun m x => ∃ (i : Nat) (dl : Int), x = (R, shapeR R R t i, mostOf 0 (leftR R R t i), dl, cumR t (min i t.length), bk R R t i, came t i, gone R R t i, (i : Int)) ∧ Most (Pk R R t i) dl ∧ i ≤ N ∧ m = N - i)
    (fun r => ∃ dl, r = .inl (R, shapeR R R t N, mostOf 0 (leftR R R t N), dl)) (by
      rintro m x ⟨i, dl, rfl, h1, h2, rfl⟩
      by_cases c : i < N
      · right
        obtain ⟨dl', q1, q2⟩ := tick_ok_v1 o rfl i (by omega) (he.2.2 i c) dl h1
        exact ⟨_, N - (i + 1), by omega, q2, i + 1, dl', rfl, q1, by omega, rfl⟩
      · left
        obtain rfl : i = N := by omega
        have e1 := he.1
        have e2 := he.2.1
        refine ⟨_, ?_, dl, rfl⟩
        unfold impl_sent_v1_s1
        dsimp only
        rw [if_neg (by simp; omega), e2]
        rfl) _ (R, [], 0, 0, [], 0, 0, 0, 0) ⟨0, 0, by simp [bk0, shapeR, leftR, cumR, came, gone, mostOf], .start (by rintro x ⟨j, k, q, _⟩; omega), by omega, rfl⟩
  obtain ⟨r, h1, dl, rfl⟩ := key
  unfold impl_sent_v1 impl_sent_v1_l1
  rw [h1]
  exact ⟨_, _, rfl⟩
theorem sent1_never (o : Ok R R t) (h : ∀ i, i ≤ 100 → i < t.length ∨ bk R R t i > 0) : ∃ c, impl_sent_v1 t R = some ((([], 0, 0), false), c) := by
  have key := iter_ex (step := impl_sent_v1_s1 t) (fun m x => ∃ (i : Nat) (dl : Int), x = (R, shapeR R R t i, mostOf 0 (leftR R R t i), dl, cumR t (min i t.length), bk R R t i, came t i, gone R R t i, (i : Int)) ∧ Most (Pk R R t i) dl ∧ i ≤ 100 ∧ m = 100 - i)
    (fun r => ∃ c, r = .inr ((([], 0, 0), false), c)) (by
      rintro m x ⟨i, dl, rfl, h1, h2, rfl⟩
      by_cases c : i < 100
      · right
        obtain ⟨dl', q1, q2⟩ := tick_ok_v1 o rfl i (by omega) (h i (by omega)) dl h1
        exact ⟨_, 100 - (i + 1), by omega, q2, i + 1, dl', rfl, q1, by omega, rfl⟩
      · left
        obtain rfl : i = 100 := by omega
        have hm := o.hm
        have h3 := h 100 (by omega)
        refine ⟨_, ?_, R, rfl⟩
        unfold impl_sent_v1_s1 impl_sent_v1_j2
        dsimp only
        rw [if_neg (by simp; omega), show decide (bk R R t 100 > 0) = true by simp; omega, if_pos rfl, if_pos (by simp)]) _ (R, [], 0, 0, [], 0, 0, 0, 0) ⟨0, 0, by simp [bk0, shapeR, leftR, cumR, came, gone, mostOf], .start (by rintro x ⟨j, k, q, _⟩; omega), by omega, rfl⟩
  obtain ⟨r, h1, c, rfl⟩ := key
  unfold impl_sent_v1 impl_sent_v1_l1
  rw [h1]
  exact ⟨c, rfl⟩

def trB (t : List Int) : Bool := decide (t.length ≤ 40) && t.all (inB 0 1000)
def okB (R D : Int) (t : List Int) : Bool := (inB 1 100 R && inB 1 1000 D) && trB t
theorem isTraffic_eq (t : List Int) (hl : t.length ≤ 1000000) : impl_IsTraffic t = some (trB t) := by
  unfold impl_IsTraffic trB
  by_cases c : t.length ≤ 40
  · rw [if_pos (by simp; omega), allWithin_eq t 0 1000 hl]; simp [c]
  · rw [if_neg (by simp; omega)]; simp [c]
theorem shTraffic_eq (t : List Int) (hl : t.length ≤ 1000000) : spec_shTraffic t = some (trB t) := by
  unfold spec_shTraffic trB
  by_cases c : t.length ≤ 40
  · rw [if_pos (by simp; omega), l1All_eq t 0 1000 hl]; simp [c]
  · rw [if_neg (by simp; omega)]; simp [c]
theorem isShaped_eq (R D : Int) (t : List Int) (hl : t.length ≤ 1000000) : impl_isShaped (R, D) t = some (okB R D t) := by
  unfold impl_isShaped impl_IsBucket impl_isRate impl_isDepth okB
  simp only [within_eq, Option.bind_some, isTraffic_eq t hl]
  cases inB 1 100 R <;> cases inB 1 1000 D <;> rfl
theorem shAsked_eq (R D : Int) (t : List Int) (hl : t.length ≤ 1000000) : spec_shAsked (R, D) t = some (okB R D t) := by
  unfold spec_shAsked spec_shBucket okB
  simp only [l1In_eq, Option.bind_some, shTraffic_eq t hl]
  cases inB 1 100 R <;> cases inB 1 1000 D <;> rfl
theorem ok_of (h : okB R D t = true) : Ok R D t := by
  simp only [okB, trB, Bool.and_eq_true, decide_eq_true_eq, inB_iff] at h
  exact ⟨h.1.1, h.1.2, all_in h.2.2, h.2.1⟩
theorem backlog_l (l left : List Int) (ok : Bool) (hl : left.length ≤ 1000000) : spec_BacklogOfShape_l1 (l, left, ok) (0, 0) = some (mostOf 0 left) := by
  have key := iter_to (step := spec_BacklogOfShape_s1 (l, left, ok)) (fun i => (mostOf 0 (left.take i), (i : Int))) left.length (r := mostOf 0 left)
    (fun i hi => by
      simp only [spec_BacklogOfShape_s1, Int.ofNat_lt, hi, decide_true, if_true, at_some hi, Option.bind_some, most_eq, w64_nat1 (show i ≤ 4611686018427387904 by omega), most_take left 0 i hi])
    (by simp [spec_BacklogOfShape_s1])
  unfold spec_BacklogOfShape_l1
  simp only [List.take_zero, mostOf, Int.natCast_zero] at key
  exact key

/-- All that is told of a bucket and traffic. -/
theorem told (R D : Int) (t : List Int) (hl : t.length ≤ 1000000) :
    (impl_ShapeOf (R, D) t = some ([], false) ∧ spec_ShapeOf (R, D) t = some ([], false) ∧ impl_BacklogOfShape (R, D) t = some (0, false) ∧ spec_BacklogOfShape (R, D) t = some (0, false) ∧ impl_DelayOfShape (R, D) t = some (0, false) ∧ spec_DelayOfShape (R, D) t = some (0, false)) ∨
    ∃ (N : Nat) (v : Int), Ok R D t ∧ N ≤ 100 ∧ Ends R D t N ∧ Most (All R D t) v ∧ impl_ShapeOf (R, D) t = some (shapeR R D t N, true) ∧ spec_ShapeOf (R, D) t = some (shapeR R D t N, true) ∧ impl_BacklogOfShape (R, D) t = some (mostOf 0 (leftR R D t N), true) ∧ spec_BacklogOfShape (R, D) t = some (mostOf 0 (leftR R D t N), true) ∧
      impl_DelayOfShape (R, D) t = some (v, true) ∧ spec_DelayOfShape (R, D) t = some (v, true) := by
  unfold impl_ShapeOf spec_ShapeOf impl_BacklogOfShape spec_BacklogOfShape impl_DelayOfShape spec_DelayOfShape impl_shaped impl_Bucket_shape
  simp only [isShaped_eq R D t hl, shAsked_eq R D t hl, Option.bind_some]
  cases c : okB R D t
  · left
    exact ⟨rfl, rfl, rfl, rfl, rfl, rfl⟩
  · have o := ok_of c
    simp only [Bool.not_true, Bool.false_eq_true, if_false]
    rcases ends_or o with ⟨N, hN, he⟩ | hn
    · right
      obtain ⟨v, cc, h1, h2⟩ := sent_ends o hN he
      obtain ⟨v', h3, h4⟩ := delay_s o hN he
      obtain rfl := h2.uniq h4
      refine ⟨N, v, o, hN, he, h2, ?_, ?_, ?_, ?_, ?_, ?_⟩
      · rw [h1]; rfl
      · rw [send_ends o hN he]; rfl
      · rw [h1]; rfl
      · rw [send_ends o hN he]; simp only [Option.bind_some]; rw [backlog_l _ _ _ (by rw [left_length]; omega)]; rfl
      · rw [h1]; rfl
      · rw [send_ends o hN he]; simp only [Option.bind_some, Bool.not_true, Bool.false_eq_true, if_false]; rw [h3]; rfl
    · left
      obtain ⟨cc, h1⟩ := sent_never o hn
      refine ⟨?_, ?_, ?_, ?_, ?_, ?_⟩
      · rw [h1]; rfl
      · rw [send_never o hn]; rfl
      · rw [h1]; rfl
      · rw [send_never o hn]; simp only [Option.bind_some]; rw [backlog_l _ _ _ (by simp)]; rfl
      · rw [h1]; rfl
      · rw [send_never o hn]; rfl
/-- A leak is a shape of a bucket as deep as its rate. -/
theorem leak_told (R : Int) (t : List Int) (hl : t.length ≤ 1000000) :
    (impl_LeakOf R t = some ([], false) ∧ spec_LeakOf R t = some ([], false)) ∨
    ∃ N : Nat, Ok R R t ∧ N ≤ 100 ∧ Ends R R t N ∧ impl_LeakOf R t = some (shapeR R R t N, true) ∧ spec_LeakOf R t = some (shapeR R R t N, true) := by
  unfold impl_LeakOf spec_LeakOf impl_isRate spec_shRate impl_LeakOf_j1 spec_LeakOf_j1
  simp only [within_eq, l1In_eq, Option.bind_some, isTraffic_eq t hl, shTraffic_eq t hl]
  cases c1 : inB 1 100 R
  · left; exact ⟨rfl, rfl⟩
  · cases c2 : trB t
    · left; exact ⟨rfl, rfl⟩
    · simp only [Bool.not_true, Bool.false_eq_true, if_false]
      have c1' := inB_iff.1 c1
      have o : Ok R R t := ok_of (by unfold okB; rw [c1, c2, inB_iff.2 (show 1 ≤ R ∧ R ≤ 1000 by omega)]; rfl)
      rcases ends_or o with ⟨N, hN, he⟩ | hn
      · right
        obtain ⟨a, cc, h1⟩ := sent1_ends o hN he
        refine ⟨N, o, hN, he, ?_, ?_⟩
        · rw [h1]; rfl
        · rw [send_ends o hN he]; rfl
      · left
        obtain ⟨cc, h1⟩ := sent1_never o hn
        exact ⟨by rw [h1]; rfl, by rw [send_never o hn]; rfl⟩
end Sh
end Go.Proofs.Ythecknnmfghilaa.Ev.Q3
