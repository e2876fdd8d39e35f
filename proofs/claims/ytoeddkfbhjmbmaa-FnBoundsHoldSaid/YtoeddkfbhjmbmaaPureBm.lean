/- Buckets, bounds and worst traffic: what the printed functions tell; no condition but lengths. -/
import Derived.Test.YtoeddkfbhjmbmaaPureJS
import Derived.Test.YtoeddkfbhjmbmaaPureBd
import Derived.Test.YtoeddkfbhjmbmaaPB22
import Derived.Test.YtoeddkfbhjmbmaaPB8
import Derived.Test.YtoeddkfbhjmbmaaPB23
import Derived.Test.YtoeddkfbhjmbmaaPB24
import Derived.Test.YtoeddkfbhjmbmaaPB21
import Derived.Test.YtoeddkfbhjmbmaaPB14
import Derived.Test.YtoeddkfbhjmbmaaPB15
import Derived.Test.YtoeddkfbhjmbmaaPB7
import Derived.Test.YtoeddkfbhjmbmaaPB25
import Derived.Test.YtoeddkfbhjmbmaaPB27
import Derived.Test.YtoeddkfbhjmbmaaPB26
import Derived.Test.YtoeddkfbhjmbmaaPB28
import Derived.Test.YtoeddkfbhjmbmaaPB29
import Derived.Test.YtoeddkfbhjmbmaaPB30
import Derived.Test.YtoeddkfbhjmbmaaPB32
import Derived.Test.YtoeddkfbhjmbmaaPB33
import Derived.Test.YtoeddkfbhjmbmaaPB1
namespace Go.Proofs.Ytoeddkfbhjmbmaa.PB
open Go Go.RowKit Go.Proofs.YtoeddkfbhjmbmaaW.PrintWords Go.Proofs.YtoeddkfbhjmbmaaW.PrintLast Go.Proofs.YtoeddkfbhjmbmaaW.PrintMore
set_option linter.unusedVariables false
set_option linter.unusedSimpArgs false
namespace Bd
theorem isBucket_tells (r d : Int) : impl_IsBucket.f r d = some (isBk r d) := by
  simp only [impl_IsBucket.f, impl_isRate.f, impl_isDepth.f, within_tells, Option.bind_some, isBk]
  cases inB 1 100 r <;> simp
theorem isTraffic_tells (l : List Int) : impl_IsTraffic.f l = some (isTr l) := by
  simp only [impl_IsTraffic.f, isTr]
  by_cases c : l.length ≤ 40
  · rw [if_pos (by omega)]
    simp only [impl_allWithin.f, Option.bind_some, c, decide_true, Bool.true_and]
    rw [if_pos (by omega)]
    rfl
  · rw [if_neg (by omega)]
    simp [c]
theorem isShaped_tells (r d : Int) (l : List Int) : impl_isShaped.f r d l = some (isBk r d && isTr l) := by
  simp only [impl_isShaped.f, isBucket_tells, isTraffic_tells, Option.bind_some]
  cases isBk r d <;> simp
theorem shBucket_tells (r d : Int) : spec_shBucket.f r d = some (isBk r d) := by
  simp only [spec_shBucket.f, in_tells, Option.bind_some, isBk]
  cases inB 1 100 r <;> simp
theorem least_tells (a b : Int) : spec_l1Least.f a b = some (mn a b) := by
  unfold spec_l1Least.f mn
  split <;> split <;> first | rfl | (congr 1; omega)
theorem tr_at {l : List Int} (h : isTr l = true) {i : Nat} (hi : i < l.length) : 0 ≤ l[i] ∧ l[i] ≤ 1000 := (isTr_iff.mp h).2 _ (List.getElem_mem hi)
theorem mn_ge {a b x : Int} (h : x ≤ a) (g : x ≤ b) : x ≤ mn a b := mn_le.mpr ⟨h, g⟩
theorem levels_l0 (r dp : Int) (l : List Int) (hr : 1 ≤ r ∧ r ≤ 100) (hdp : 1 ≤ dp ∧ dp ≤ 1000) (ht : isTr l = true) (d : Nat) : ∀ (i : Nat) (v : Int) (out : List Int), i ≤ l.length → l.length - i = d → 0 ≤ v ∧ v ≤ 1000 → out.length ≤ i →
    Tells (fun k => impl_Bucket_levels.l0 k out v l (l.length : Int) (i : Int) r dp) (if kp r dp v (l.drop i) = true then (out ++ lev r dp v (l.drop i), true) else ([], false)) := by
  have hlen := (isTr_iff.mp ht).1
  induction d with
  | zero =>
    intro i v out h1 hd hv ho
    rw [List.drop_of_length_le (by omega)]
    simp only [kp, lev, if_true, List.append_nil]
    refine Tells.succ (Tells.now fun k => ?_)
    simp only [impl_Bucket_levels.l0]; rw [if_neg (by omega)]
  | succ d ih =>
    intro i v out h1 hd hv ho
    have hin : i < l.length := by omega
    have hx := tr_at ht hin
    have hrd := rd_at l i hin
    rw [List.drop_eq_getElem_cons hin]
    simp only [kp, lev]
    generalize l[i] = x at hx hrd
    by_cases c : x ≤ v
    · have hm0 : 0 ≤ mn dp (v - x + r) := mn_ge (by omega) (by omega)
      have hm1 : mn dp (v - x + r) ≤ dp := (mn_le.mp (Int.le_refl _)).1
      have h2 := ih (i + 1) (mn dp (v - x + r)) (out ++ [v]) (by omega) (by omega) (by omega) (by simp; omega)
      simp only [c, decide_true, Bool.true_and]
      rw [show ∀ q : List Int, out ++ v :: q = out ++ [v] ++ q from fun q => by simp]
      refine Tells.step (fun k => ?_) h2
      simp only [impl_Bucket_levels.l0, hrd]
      rw [if_pos (by omega), if_pos (by omega), if_pos (by omega), if_neg (by omega), if_pos (by omega), w64 (x := v - x) (by omega) (by omega), w64 (x := v - x + r) (by omega) (by omega), w64 (x := (i : Int) + 1) (by omega) (by omega)]
      rfl
    · simp only [c, decide_false, Bool.false_and, if_neg (show ¬ false = true by decide)]
      refine Tells.succ (Tells.now fun k => ?_)
      simp only [impl_Bucket_levels.l0, hrd]
      rw [if_pos (by omega), if_pos (by omega), if_pos (by omega), if_pos (by omega)]
theorem levels_tells (r d : Int) (l : List Int) (hb : isBk r d = true) (ht : isTr l = true) :
    Tells (fun k => impl_Bucket_levels.f k r d l) (if kp r d d l = true then (lev r d d l, true) else ([], false)) := by
  obtain ⟨hr, hd⟩ := isBk_iff.mp hb
  have h := levels_l0 r d l hr hd ht l.length 0 d [] (by omega) (by omega) (by omega) (by simp)
  unfold impl_Bucket_levels.f
  simpa using h
theorem levSnd (r d : Int) (l : List Int) : (if kp r d d l = true then (lev r d d l, true) else ([], false)).2 = kp r d d l := by
  cases kp r d d l <;> rfl
theorem keepsBucket_tells (r d : Int) (l : List Int) : Tells (fun k => impl_KeepsBucket.f k r d l) (kbR r d l) := by
  unfold impl_KeepsBucket.f kbR
  by_cases c : (isBk r d && isTr l) = true
  · have c' := c
    simp only [Bool.and_eq_true] at c'
    rw [if_pos c]
    simp only [isShaped_tells, Option.bind_some, c, if_true]
    exact Tells.bind (levels_tells r d l c'.1 c'.2) (Tells.now fun k => by rw [levSnd])
  · rw [if_neg c]
    simp only [isShaped_tells, Option.bind_some, if_neg c]
    exact Tells.now fun k => rfl
theorem kSum_l0 (l : List Int) (h : ∀ x ∈ l, 0 ≤ x ∧ x ≤ 1000) (hl : l.length ≤ 1000000) (d : Nat) : ∀ (i : Nat) (n : Int), i ≤ l.length → l.length - i = d → 0 ≤ n ∧ n ≤ 1000 * i →
    Tells (fun k => laws_kSum.l0 k n l (l.length : Int) (i : Int)) (n + (l.drop i).sum) := by
  induction d with
  | zero =>
    intro i n h1 hd hn
    rw [List.drop_of_length_le (by omega)]
    simp only [List.sum_nil, Int.add_zero]
    refine Tells.succ (Tells.now fun k => ?_)
    simp only [laws_kSum.l0]; rw [if_neg (by omega)]
  | succ d ih =>
    intro i n h1 hd hn
    have hin : i < l.length := by omega
    have hx := h l[i] (List.getElem_mem hin)
    have hrd := rd_at l i hin
    rw [List.drop_eq_getElem_cons hin, List.sum_cons]
    generalize l[i] = x at hx hrd
    have h2 := ih (i + 1) (n + x) (by omega) (by omega) (by omega)
    rw [← Int.add_assoc]
    refine Tells.step (fun k => ?_) h2
    simp only [laws_kSum.l0, hrd]
    rw [if_pos (by omega), if_pos (by omega), if_pos (by omega), w64 (x := n + x) (by omega) (by omega), w64 (x := (i : Int) + 1) (by omega) (by omega)]
    rfl
theorem kSum_tells (l : List Int) (h : ∀ x ∈ l, 0 ≤ x ∧ x ≤ 1000) (hl : l.length ≤ 1000000) : Tells (fun k => laws_kSum.f k l) l.sum := by
  have h := kSum_l0 l h hl l.length 0 0 (by omega) (by omega) (by omega)
  unfold laws_kSum.f
  simpa using h
theorem kMost_l0 (l : List Int) (m : Int) (h : ∀ x ∈ l, x ≤ m) (hl : l.length ≤ 1000000) (d : Nat) : ∀ (i : Nat) (n : Int), i ≤ l.length → l.length - i = d → n ≤ m →
    ∃ x, Tells (fun k => laws_kMost.l0 k n l (l.length : Int) (i : Int)) x ∧ x ≤ m := by
  induction d with
  | zero =>
    intro i n h1 hd hn
    refine ⟨n, Tells.succ (Tells.now fun k => ?_), hn⟩
    simp only [laws_kMost.l0]; rw [if_neg (by omega)]
  | succ d ih =>
    intro i n h1 hd hn
    have hin : i < l.length := by omega
    have hx := h l[i] (List.getElem_mem hin)
    have hrd := rd_at l i hin
    generalize l[i] = x at hx hrd
    by_cases c : x > n
    · obtain ⟨y, hy, hm⟩ := ih (i + 1) x (by omega) (by omega) hx
      refine ⟨y, Tells.step (fun k => ?_) hy, hm⟩
      simp only [laws_kMost.l0, hrd]
      rw [if_pos (by omega), if_pos (by omega), if_pos (by omega), if_pos c, w64 (x := (i : Int) + 1) (by omega) (by omega)]
      rfl
    · obtain ⟨y, hy, hm⟩ := ih (i + 1) n (by omega) (by omega) hn
      refine ⟨y, Tells.step (fun k => ?_) hy, hm⟩
      simp only [laws_kMost.l0, hrd]
      rw [if_pos (by omega), if_pos (by omega), if_pos (by omega), if_neg c, w64 (x := (i : Int) + 1) (by omega) (by omega)]
      rfl
theorem kMost_tells (l : List Int) (m : Int) (h0 : 0 ≤ m) (h : ∀ x ∈ l, x ≤ m) (hl : l.length ≤ 1000000) : ∃ x, Tells (fun k => laws_kMost.f k l) x ∧ x ≤ m := by
  unfold laws_kMost.f
  exact kMost_l0 l m h hl l.length 0 0 (by omega) (by omega) h0
theorem same_l0 (l : List Int) (hl : l.length ≤ 1000000) (d : Nat) : ∀ (i : Nat), i ≤ l.length → l.length - i = d → Tells (fun k => laws_kSame.l0 k l l (l.length : Int) (i : Int)) true := by
  induction d with
  | zero =>
    intro i h1 hd
    refine Tells.succ (Tells.now fun k => ?_)
    simp only [laws_kSame.l0]; rw [if_neg (by omega)]
  | succ d ih =>
    intro i h1 hd
    refine Tells.step (fun k => ?_) (ih (i + 1) (by omega) (by omega))
    simp only [laws_kSame.l0]
    rw [if_pos (by omega), if_pos (by omega), if_pos (by omega), if_pos (by omega), if_true, w64 (x := (i : Int) + 1) (by omega) (by omega)]
    rfl
theorem same_self (l : List Int) (hl : l.length ≤ 1000000) : Tells (fun k => laws_kSame.f k l l) true := by
  unfold laws_kSame.f
  simp only [if_true]
  exact same_l0 l hl l.length 0 (by omega) (by omega)
/-- The bounds of what is reckoned with a rate. -/
def isSv (r lat : Int) : Bool := inB 1 100 r && inB 0 20 lat
theorem isSv_iff {r d : Int} : isSv r d = true ↔ (1 ≤ r ∧ r ≤ 100) ∧ 0 ≤ d ∧ d ≤ 20 := by simp [isSv, inB_iff]
theorem isServer_tells (r d : Int) : impl_IsServer.f r d = some (isSv r d) := by
  simp only [impl_IsServer.f, impl_isRate.f, within_tells, Option.bind_some, isSv]
  cases inB 1 100 r <;> simp
theorem boServer_tells (r d : Int) : spec_boServer.f r d = some (isSv r d) := by
  simp only [spec_boServer.f, spec_shRate.f, in_tells, Option.bind_some, isSv]
  cases inB 1 100 r <;> simp
def fits (r lat br dp : Int) : Bool := isSv r lat && isBk br dp && decide (br ≤ r)
theorem bounded_tells (r lat br dp : Int) : impl_isBounded.f r lat br dp = some (fits r lat br dp) := by
  simp only [impl_isBounded.f, isServer_tells, isBucket_tells, Option.bind_some, fits]
  cases isSv r lat <;> cases isBk br dp <;> simp
theorem boFits_tells (r lat br dp : Int) : spec_boFits.f r lat br dp = some (fits r lat br dp) := by
  simp only [spec_boFits.f, boServer_tells, shBucket_tells, Option.bind_some, fits]
  cases isSv r lat <;> cases isBk br dp <;> simp
theorem fits_iff {r lat br dp : Int} : fits r lat br dp = true ↔ ((1 ≤ r ∧ r ≤ 100) ∧ 0 ≤ lat ∧ lat ≤ 20) ∧ ((1 ≤ br ∧ br ≤ 100) ∧ 1 ≤ dp ∧ dp ≤ 1000) ∧ br ≤ r := by
  simp only [fits, Bool.and_eq_true, isSv_iff, isBk_iff, decide_eq_true_eq, and_assoc]
def bbR (r lat br dp : Int) : Int × Bool := if fits r lat br dp = true then (dp + br * lat, true) else (0, false)
def dbR (r lat br dp : Int) : Int × Bool := if fits r lat br dp = true then (lat + (dp + r - 1) / r, true) else (0, false)
theorem prod_bound {br lat : Int} (hb : 1 ≤ br ∧ br ≤ 100) (hl : 0 ≤ lat ∧ lat ≤ 20) : 0 ≤ br * lat ∧ br * lat ≤ 2000 := by
  constructor
  · exact Int.mul_nonneg (by omega) hl.1
  · calc br * lat ≤ 100 * lat := Int.mul_le_mul_of_nonneg_right hb.2 hl.1
      _ ≤ 2000 := by omega
theorem backlogBound_tells (r lat br dp : Int) : impl_BacklogBound.f r lat br dp = some (bbR r lat br dp) ∧ spec_BacklogBound.f r lat br dp = some (bbR r lat br dp) := by
  simp only [impl_BacklogBound.f, spec_BacklogBound.f, bounded_tells, boFits_tells, Option.bind_some, bbR]
  by_cases c : fits r lat br dp = true
  · obtain ⟨⟨h1, h2⟩, ⟨h3, h4⟩, h5⟩ := fits_iff.mp c
    have hp := prod_bound h3 h2
    simp only [if_pos c]
    rw [w64 (x := br * lat) (by omega) (by omega), w64 (by omega) (by omega)]
    exact ⟨rfl, rfl⟩
  · simp only [if_neg c]
    exact ⟨trivial, trivial⟩
theorem delayBound_tells (r lat br dp : Int) : impl_DelayBound.f r lat br dp = some (dbR r lat br dp) ∧ spec_DelayBound.f r lat br dp = some (dbR r lat br dp) := by
  simp only [impl_DelayBound.f, spec_DelayBound.f, bounded_tells, boFits_tells, Option.bind_some, dbR]
  by_cases c : fits r lat br dp = true
  · obtain ⟨⟨h1, h2⟩, ⟨h3, h4⟩, h5⟩ := fits_iff.mp c
    have hq0 : 0 ≤ (dp + r - 1) / r := Int.ediv_nonneg (by omega) (by omega)
    have hq1 : (dp + r - 1) / r ≤ dp + r - 1 := Int.ediv_le_self _ (by omega)
    simp only [if_pos c, if_neg (show ¬ r = 0 by omega)]
    rw [w64 (x := dp + r) (by omega) (by omega), w64 (x := dp + r - 1) (by omega) (by omega), Int.tdiv_eq_ediv_of_nonneg (by omega), w64 (x := (dp + r - 1) / r) (by omega) (by omega), w64 (by omega) (by omega)]
    exact ⟨rfl, rfl⟩
  · simp only [if_neg c]
    exact ⟨trivial, trivial⟩
def bhR (r lat br dp : Int) : Int × Int × Bool := if (fits r lat br dp && inB 1 1000 (dp + br * lat)) = true then (br, dp + br * lat, true) else (0, 0, false)
theorem behind_tells (r lat br dp : Int) : impl_BucketBehind.f r lat br dp = some (bhR r lat br dp) ∧ spec_BucketBehind.f r lat br dp = some (bhR r lat br dp) := by
  simp only [impl_BucketBehind.f, spec_BucketBehind.f, (backlogBound_tells r lat br dp).1, boFits_tells, impl_isDepth.f, within_tells, shBucket_tells, Option.bind_some, bhR, bbR]
  by_cases c : fits r lat br dp = true
  · obtain ⟨⟨h1, h2⟩, ⟨h3, h4⟩, h5⟩ := fits_iff.mp c
    have hp := prod_bound h3 h2
    have hbr : inB 1 100 br = true := inB_iff.mpr h3
    simp only [if_pos c, c, if_true, Bool.true_and]
    rw [w64 (x := br * lat) (by omega) (by omega), w64 (by omega) (by omega)]
    simp only [isBk, hbr, Bool.true_and]
    cases inB 1 1000 (dp + br * lat) <;> exact ⟨rfl, rfl⟩
  · have c2 : fits r lat br dp = false := by simpa using c
    simp [c2]
def irR (a b c d : Int) : Int × Int × Bool := if (isSv a b && isSv c d && isSv (mn a c) (b + d)) = true then (mn a c, b + d, true) else (0, 0, false)
theorem inRow_tells (a b c d : Int) : Tells (fun k => impl_InRow.f k a b c d) (irR a b c d) ∧ Tells (fun k => spec_InRow.f k a b c d) (irR a b c d) := by
  simp only [impl_InRow.f, spec_InRow.f, isServer_tells, boServer_tells, Option.bind_some, irR]
  have hj0 : Tells (fun k => impl_InRow.j0 k true a b c d) (0, 0, false) := Tells.succ (Tells.now fun k => by simp only [impl_InRow.j0, if_true])
  have hj1 : Tells (fun k => spec_InRow.j0 k true a b c d) (0, 0, false) := Tells.succ (Tells.now fun k => by simp only [spec_InRow.j0, if_true])
  cases c1 : isSv a b
  · exact ⟨by simpa using hj0, by simpa using hj1⟩
  · cases c2 : isSv c d
    · exact ⟨by simpa using hj0, by simpa using hj1⟩
    · have h1 := isSv_iff.mp c1
      have h2 := isSv_iff.mp c2
      have e : wrap64 (b + d) = b + d := w64 (by omega) (by omega)
      simp only [if_true, Bool.not_true, Bool.true_and]
      constructor
      · refine Tells.succ (Tells.now fun k => ?_)
        simp only [impl_InRow.j0, if_neg (show ¬ false = true by decide), e, isServer_tells, Option.bind_some]
        cases isSv (mn a c) (b + d) <;> rfl
      · refine Tells.succ (Tells.now fun k => ?_)
        simp only [spec_InRow.j0, if_neg (show ¬ false = true by decide), e, boServer_tells, least_tells, Option.bind_some]
        cases isSv (mn a c) (b + d) <;> rfl
theorem mn_comm (a b : Int) : mn a b = mn b a := by unfold mn; split <;> split <;> omega
theorem irR_comm (a b c d : Int) : irR a b c d = irR c d a b := by
  unfold irR
  rw [mn_comm a c, Int.add_comm b d, Bool.and_comm (isSv a b) (isSv c d)]
def wl (r d : Int) : Nat → List Int
  | 0 => []
  | n + 1 => d :: List.replicate n (mn r d)
theorem wl_length (r d : Int) (n : Nat) : (wl r d n).length = n := by cases n <;> simp [wl]
theorem kp_rest (r d : Int) (n : Nat) : kp r d (mn d r) (List.replicate n (mn r d)) = true := by
  induction n with
  | zero => rfl
  | succ n ih =>
    rw [List.replicate_succ]
    simp only [kp, Bool.and_eq_true, decide_eq_true_eq]
    rw [mn_comm r d] at ih ⊢
    exact ⟨Int.le_refl _, by rw [Int.sub_self, Int.zero_add]; exact ih⟩
theorem kp_worst (r d : Int) (n : Nat) : kp r d d (wl r d n) = true := by
  cases n with
  | zero => rfl
  | succ n =>
    simp only [wl, kp, Bool.and_eq_true, decide_eq_true_eq]
    exact ⟨Int.le_refl _, by rw [Int.sub_self, Int.zero_add]; exact kp_rest r d n⟩
def wtR (r d n : Int) : List Int × Bool := if (isBk r d && inB 0 40 n) = true then (wl r d n.toNat, true) else ([], false)
theorem worst_loop (r d : Int) (N : Nat) (hN : N ≤ 40) (M : Int) (hM : M = (N : Int)) : ∀ (m i : Nat) (x : Int) (out : List Int), x = (i : Int) → 1 ≤ i → i + m = N → out.length = i →
    Tells (fun k => impl_WorstTraffic.l0 k out M x r d) (out ++ List.replicate m (mn r d), true) ∧ Tells (fun k => spec_WorstTraffic.l0 k M out x r d) (out ++ List.replicate m (mn r d), true) := by
  intro m
  induction m with
  | zero =>
    intro i x out hx h1 h2 h3
    simp only [List.replicate_zero, List.append_nil]
    constructor <;> refine Tells.succ (Tells.now fun k => ?_)
    · simp only [impl_WorstTraffic.l0]; rw [if_neg (by omega)]
    · simp only [spec_WorstTraffic.l0]; rw [if_neg (by omega)]
  | succ m ih =>
    intro i x out hx h1 h2 h3
    obtain ⟨y, hy⟩ : ∃ y : Int, y = x + 1 := ⟨_, rfl⟩
    have e : wrap64 (x + 1) = y := by rw [w64 (by omega) (by omega)]; exact hy.symm
    have h4 := ih (i + 1) y (out ++ [mn r d]) (by omega) (by omega) (by omega) (by simp; omega)
    rw [List.replicate_succ, show out ++ mn r d :: List.replicate m (mn r d) = out ++ [mn r d] ++ List.replicate m (mn r d) by simp]
    constructor
    · refine Tells.step (fun k => ?_) h4.1
      simp only [impl_WorstTraffic.l0, e]
      rw [if_pos (by omega), if_neg (by omega), if_pos (by omega)]
    · refine Tells.step (fun k => ?_) h4.2
      simp only [spec_WorstTraffic.l0, e, least_tells, Option.bind_some]
      rw [if_pos (by omega), if_neg (by omega), if_pos (by omega)]
theorem worst_tells (r d n : Int) : Tells (fun k => impl_WorstTraffic.f k r d n) (wtR r d n) ∧ Tells (fun k => spec_WorstTraffic.f k r d n) (wtR r d n) := by
  simp only [impl_WorstTraffic.f, spec_WorstTraffic.f, isBucket_tells, shBucket_tells, within_tells, in_tells, Option.bind_some, wtR]
  have hj0 : Tells (fun k => impl_WorstTraffic.j0 k n true r d) ([], false) := Tells.succ (Tells.now fun k => by simp only [impl_WorstTraffic.j0, if_true])
  have hj1 : Tells (fun k => spec_WorstTraffic.j0 k n true r d) ([], false) := Tells.succ (Tells.now fun k => by simp only [spec_WorstTraffic.j0, if_true])
  cases c1 : isBk r d
  · exact ⟨by simpa using hj0, by simpa using hj1⟩
  · cases c2 : inB 0 40 n
    · exact ⟨by simpa using hj0, by simpa using hj1⟩
    · have h1 := inB_iff.mp c2
      simp only [if_true, Bool.not_true, Bool.true_and]
      obtain ⟨N, hN⟩ : ∃ N : Nat, n = (N : Int) := ⟨n.toNat, by omega⟩
      rw [show n.toNat = N by omega]
      have hgo : Tells (fun k => impl_WorstTraffic.l0 k [] n 0 r d) (wl r d N, true) ∧ Tells (fun k => spec_WorstTraffic.l0 k n [] 0 r d) (wl r d N, true) := by
        cases N with
        | zero =>
          constructor <;> refine Tells.succ (Tells.now fun k => ?_)
          · simp only [impl_WorstTraffic.l0, wl]; rw [if_neg (by omega)]
          · simp only [spec_WorstTraffic.l0, wl]; rw [if_neg (by omega)]
        | succ N =>
          have h4 := worst_loop r d (N + 1) (by omega) n hN N 1 1 [d] rfl (by omega) (by omega) rfl
          have e : wrap64 (0 + 1) = 1 := by rw [w64 (by omega) (by omega)]; rfl
          constructor
          · refine Tells.step (fun k => ?_) h4.1
            simp only [impl_WorstTraffic.l0, e, List.nil_append]
            rw [if_pos (by omega), if_true, if_pos (by simp)]
          · refine Tells.step (fun k => ?_) h4.2
            simp only [spec_WorstTraffic.l0, e, least_tells, Option.bind_some, List.nil_append]
            rw [if_pos (by omega), if_true, if_pos (by simp)]
      constructor
      · refine Tells.succ ?_
        simp only [impl_WorstTraffic.j0, if_neg (show ¬ false = true by decide)]
        exact hgo.1
      · refine Tells.succ ?_
        simp only [spec_WorstTraffic.j0, if_neg (show ¬ false = true by decide)]
        exact hgo.2
end Bd
end Go.Proofs.Ytoeddkfbhjmbmaa.PB
