/- Buckets and traffic: what the printed functions tell; no condition but lengths. -/
import Derived.Test.YthecknnmfghilaaPureBk
import Derived.Test.YthecknnmfghilaaPureAll
import Derived.Test.YthecknnmfghilaaPA5
import Derived.Test.YthecknnmfghilaaPA4
import Derived.Test.YthecknnmfghilaaPA13
import Derived.Test.YthecknnmfghilaaPA6
import Derived.Test.YthecknnmfghilaaPA18
import Derived.Test.YthecknnmfghilaaPA19
import Derived.Test.YthecknnmfghilaaPA17
import Derived.Test.YthecknnmfghilaaPA7
import Derived.Test.YthecknnmfghilaaPA20
import Derived.Test.YthecknnmfghilaaPA14
import Derived.Test.YthecknnmfghilaaPA26
import Derived.Test.YthecknnmfghilaaPA21
import Derived.Test.YthecknnmfghilaaPA3
import Derived.Test.YthecknnmfghilaaPA2
import Derived.Test.YthecknnmfghilaaPA22
import Derived.Test.YthecknnmfghilaaPA23
import Derived.Test.YthecknnmfghilaaPA25
import Derived.Test.YthecknnmfghilaaPA27
import Derived.Test.YthecknnmfghilaaPA29
import Derived.Test.YthecknnmfghilaaPA30
import Derived.Test.YthecknnmfghilaaPA32
import Derived.Test.YthecknnmfghilaaPA33
namespace Go.Proofs.Ythecknnmfghilaa.PA
open Go Go.RowKit Go.Proofs.YthecknnmfghilaaW.PrintWords Go.Proofs.YthecknnmfghilaaW.PrintLast Go.Proofs.YthecknnmfghilaaW.PrintMore
set_option linter.unusedVariables false
set_option linter.unusedSimpArgs false
theorem isBucket_tells (r d : Int) : impl_IsBucket.f r d = some (isBk r d) := by
  simp only [impl_IsBucket.f, impl_isRate.f, impl_isDepth.f, within_tells, Option.bind_some, isBk]
  cases inB 1 100 r <;> simp
theorem isTraffic_tells (l : List Int) : impl_IsTraffic.f l = some (isTr l) := by
  simp only [impl_IsTraffic.f, isTr]
  by_cases c : l.length ≤ 40
  · rw [if_pos (by omega)]
    simp only [impl_allWithin.f, Option.bind_some, c, decide_true, Bool.true_and]
    rw [if_pos (by omega)]
    rfl
  · rw [if_neg (by omega)]
    simp [c]
theorem isShaped_tells (r d : Int) (l : List Int) : impl_isShaped.f r d l = some (isBk r d && isTr l) := by
  simp only [impl_isShaped.f, isBucket_tells, isTraffic_tells, Option.bind_some]
  cases isBk r d <;> simp
theorem shBucket_tells (r d : Int) : spec_shBucket.f r d = some (isBk r d) := by
  simp only [spec_shBucket.f, in_tells, Option.bind_some, isBk]
  cases inB 1 100 r <;> simp
theorem shTraffic_tells (l : List Int) : Tells (fun k => spec_shTraffic.f k l) (isTr l) := by
  unfold spec_shTraffic.f isTr
  by_cases c : l.length ≤ 40
  · refine Tells.congr (f := fun k => (spec_l1All.f k l 0 1000).bind fun t => some t) (fun k => by rw [if_pos (by omega)]) ?_
    refine Tells.bind (l1All_tells 0 1000 l (by omega)) (Tells.now fun k => ?_)
    simp [c]
  · exact Tells.now fun k => by rw [if_neg (by omega)]; simp [c]
theorem shAsked_tells (r d : Int) (l : List Int) : Tells (fun k => spec_shAsked.f k r d l) (isBk r d && isTr l) := by
  simp only [spec_shAsked.f, shBucket_tells, Option.bind_some]
  cases isBk r d
  · exact Tells.now fun k => rfl
  · simpa using Tells.bind (f := fun k (t : Bool) => some t) (shTraffic_tells l) (Tells.now fun k => rfl)
theorem least_tells (a b : Int) : spec_l1Least.f a b = some (mn a b) := by
  unfold spec_l1Least.f mn
  split <;> split <;> first | rfl | (congr 1; omega)
theorem most_tells (a b : Int) : spec_l1Most.f a b = some (mx a b) := by
  unfold spec_l1Most.f mx
  split <;> split <;> first | rfl | (congr 1; omega)
theorem tr_at {l : List Int} (h : isTr l = true) {i : Nat} (hi : i < l.length) : 0 ≤ l[i] ∧ l[i] ≤ 1000 := (isTr_iff.mp h).2 _ (List.getElem_mem hi)
theorem mn_ge {a b x : Int} (h : x ≤ a) (g : x ≤ b) : x ≤ mn a b := mn_le.mpr ⟨h, g⟩
theorem levels_l0 (r dp : Int) (l : List Int) (hr : 1 ≤ r ∧ r ≤ 100) (hdp : 1 ≤ dp ∧ dp ≤ 1000) (ht : isTr l = true) (d : Nat) : ∀ (i : Nat) (v : Int) (out : List Int), i ≤ l.length → l.length - i = d → 0 ≤ v ∧ v ≤ 1000 → out.length ≤ i →
    Tells (fun k => impl_Bucket_levels.l0 k out v l (l.length : Int) (i : Int) r dp) (if kp r dp v (l.drop i) = true then (out ++ lev r dp v (l.drop i), true) else ([], false)) ∧
    Tells (fun k => spec_shLevels.l0 k out v l (l.length : Int) (i : Int) r dp) (if kp r dp v (l.drop i) = true then (out ++ lev r dp v (l.drop i), true) else ([], false)) := by
  have hlen := (isTr_iff.mp ht).1
  induction d with
  | zero =>
    intro i v out h1 hd hv ho
    rw [List.drop_of_length_le (by omega)]
    simp only [kp, lev, if_true, List.append_nil]
    constructor <;> refine Tells.succ (Tells.now fun k => ?_)
    · simp only [impl_Bucket_levels.l0]; rw [if_neg (by omega)]
    · simp only [spec_shLevels.l0]; rw [if_neg (by omega)]
  | succ d ih =>
    intro i v out h1 hd hv ho
    have hin : i < l.length := by omega
    have hx := tr_at ht hin
    have hrd := rd_at l i hin
    rw [List.drop_eq_getElem_cons hin]
    simp only [kp, lev]
    generalize l[i] = x at hx hrd
    by_cases c : x ≤ v
    · have hm0 : 0 ≤ mn dp (v - x + r) := mn_ge (by omega) (by omega)
      have hm1 : mn dp (v - x + r) ≤ dp := (mn_le.mp (Int.le_refl _)).1
      have h2 := ih (i + 1) (mn dp (v - x + r)) (out ++ [v]) (by omega) (by omega) (by omega) (by simp; omega)
      simp only [c, decide_true, Bool.true_and]
      rw [show ∀ q : List Int, out ++ v :: q = out ++ [v] ++ q from fun q => by simp]
      constructor
      · refine Tells.step (fun k => ?_) h2.1
        simp only [impl_Bucket_levels.l0, hrd]
        rw [if_pos (by omega), if_pos (by omega), if_pos (by omega), if_neg (by omega), if_pos (by omega), w64 (x := v - x) (by omega) (by omega), w64 (x := v - x + r) (by omega) (by omega), w64 (x := (i : Int) + 1) (by omega) (by omega)]
        rfl
      · refine Tells.step (fun k => ?_) h2.2
        simp only [spec_shLevels.l0, hrd, least_tells, Option.bind_some]
        rw [if_pos (by omega), if_pos (by omega), if_pos (by omega), if_pos (by omega), if_neg (by omega), w64 (x := v - x) (by omega) (by omega), w64 (x := v - x + r) (by omega) (by omega), w64 (x := (i : Int) + 1) (by omega) (by omega)]
        rfl
    · simp only [c, decide_false, Bool.false_and, if_neg (show ¬ false = true by decide)]
      constructor <;> refine Tells.succ (Tells.now fun k => ?_)
      · simp only [impl_Bucket_levels.l0, hrd]
        rw [if_pos (by omega), if_pos (by omega), if_pos (by omega), if_pos (by omega)]
      · simp only [spec_shLevels.l0, hrd]
        rw [if_pos (by omega), if_pos (by omega), if_pos (by omega), if_pos (by omega), if_pos (by omega)]
theorem levels_tells (r d : Int) (l : List Int) (hb : isBk r d = true) (ht : isTr l = true) :
    Tells (fun k => impl_Bucket_levels.f k r d l) (if kp r d d l = true then (lev r d d l, true) else ([], false)) ∧ Tells (fun k => spec_shLevels.f k r d l) (if kp r d d l = true then (lev r d d l, true) else ([], false)) := by
  obtain ⟨hr, hd⟩ := isBk_iff.mp hb
  have h := levels_l0 r d l hr hd ht l.length 0 d [] (by omega) (by omega) (by omega) (by simp)
  unfold impl_Bucket_levels.f spec_shLevels.f
  simpa using h
theorem levSnd (r d : Int) (l : List Int) : (if kp r d d l = true then (lev r d d l, true) else ([], false)).2 = kp r d d l := by
  cases kp r d d l <;> rfl
theorem shKeeps_tells (r d : Int) (l : List Int) (hb : isBk r d = true) (ht : isTr l = true) : Tells (fun k => spec_shKeeps.f k r d l) (kp r d d l) := by
  unfold spec_shKeeps.f
  exact Tells.bind (levels_tells r d l hb ht).2 (Tells.now fun k => by rw [levSnd])
theorem levelsOf_tells (r d : Int) (l : List Int) : Tells (fun k => impl_LevelsOf.f k r d l) (levR r d l) ∧ Tells (fun k => spec_LevelsOf.f k r d l) (levR r d l) := by
  unfold impl_LevelsOf.f spec_LevelsOf.f
  by_cases c : (isBk r d && isTr l) = true
  · have c' := c
    simp only [Bool.and_eq_true] at c'
    have h := levels_tells r d l c'.1 c'.2
    have e : levR r d l = (if kp r d d l = true then (lev r d d l, true) else ([], false)) := by simp [levR, c'.1, c'.2]
    rw [e]
    constructor
    · simp only [isShaped_tells, Option.bind_some, c, if_true]
      exact Tells.bind h.1 (Tells.now fun k => rfl)
    · refine Tells.bind (shAsked_tells r d l) ?_
      simp only [c, if_true]
      exact Tells.bind h.2 (Tells.now fun k => rfl)
  · have e : levR r d l = ([], false) := by
      unfold levR
      rw [if_neg]
      intro h
      rw [Bool.and_eq_true] at h
      exact c h.1
    rw [e]
    constructor
    · simp only [isShaped_tells, Option.bind_some, if_neg c]
      exact Tells.now fun k => rfl
    · refine Tells.bind (shAsked_tells r d l) ?_
      simp only [if_neg c]
      exact Tells.now fun k => rfl
theorem keepsBucket_tells (r d : Int) (l : List Int) : Tells (fun k => impl_KeepsBucket.f k r d l) (kbR r d l) ∧ Tells (fun k => spec_KeepsBucket.f k r d l) (kbR r d l) := by
  unfold impl_KeepsBucket.f spec_KeepsBucket.f kbR
  by_cases c : (isBk r d && isTr l) = true
  · have c' := c
    simp only [Bool.and_eq_true] at c'
    rw [if_pos c]
    constructor
    · simp only [isShaped_tells, Option.bind_some, c, if_true]
      exact Tells.bind (levels_tells r d l c'.1 c'.2).1 (Tells.now fun k => by rw [levSnd])
    · refine Tells.bind (shAsked_tells r d l) ?_
      simp only [c, if_true]
      exact Tells.bind (shKeeps_tells r d l c'.1 c'.2) (Tells.now fun k => rfl)
  · rw [if_neg c]
    constructor
    · simp only [isShaped_tells, Option.bind_some, if_neg c]
      exact Tells.now fun k => rfl
    · refine Tells.bind (shAsked_tells r d l) ?_
      simp only [if_neg c]
      exact Tells.now fun k => rfl
theorem keepsBoth_tells (r d r' d' : Int) (l : List Int) : Tells (fun k => impl_KeepsBoth.f k r d r' d' l) (if (isBk r d && isBk r' d' && isTr l) = true then (kp r d d l && kp r' d' d' l, true) else (false, false)) ∧
    Tells (fun k => spec_KeepsBoth.f k r d r' d' l) (if (isBk r d && isBk r' d' && isTr l) = true then (kp r d d l && kp r' d' d' l, true) else (false, false)) := by
  unfold impl_KeepsBoth.f spec_KeepsBoth.f
  simp only [isShaped_tells, isBucket_tells, shBucket_tells, Option.bind_some]
  have hj0 : Tells (fun k => impl_KeepsBoth.j0 k l true r d r' d') (false, false) := Tells.succ (Tells.now fun k => by simp only [impl_KeepsBoth.j0, if_true])
  have hj1 : Tells (fun k => spec_KeepsBoth.j0 k l true r d r' d') (false, false) := Tells.succ (Tells.now fun k => by simp only [spec_KeepsBoth.j0, if_true])
  have hsk := shAsked_tells r' d' l
  cases c1 : isBk r d
  · exact ⟨by simpa using hj0, by simpa using hj1⟩
  · cases c3 : isTr l
    · refine ⟨by simpa using hj0, ?_⟩
      simp only [if_true]
      rw [c3] at hsk
      refine Tells.bind hsk ?_
      simpa using hj1
    · cases c2 : isBk r' d'
      · refine ⟨by simpa using hj0, ?_⟩
        simp only [if_true]
        rw [c2] at hsk
        refine Tells.bind hsk ?_
        simpa using hj1
      · rw [c2, c3] at hsk
        simp only [Bool.and_self, if_true, Bool.not_true]
        constructor
        · refine Tells.succ ?_
          simp only [impl_KeepsBoth.j0, if_neg (show ¬ false = true by decide)]
          refine Tells.bind (levels_tells r d l c1 c3).1 (Tells.bind (levels_tells r' d' l c2 c3).1 (Tells.now fun k => ?_))
          rw [levSnd, levSnd]
          cases kp r d d l <;> simp
        · refine Tells.bind hsk (Tells.succ ?_)
          simp only [spec_KeepsBoth.j0, if_neg (show ¬ false = true by decide), Bool.not_true]
          refine Tells.bind (shKeeps_tells r d l c1 c3) ?_
          cases kp r d d l
          · exact Tells.now fun k => by simp
          · simp only [if_true]
            exact Tells.bind (shKeeps_tells r' d' l c2 c3) (Tells.now fun k => by simp)
theorem sum_bound : ∀ (l : List Int), (∀ x ∈ l, 0 ≤ x ∧ x ≤ 1000) → 0 ≤ l.sum ∧ l.sum ≤ 1000 * l.length := by
  intro l
  induction l with
  | nil => intro h; simp
  | cons x l ih =>
    intro h
    have h1 := ih fun y hy => h y (List.mem_cons_of_mem _ hy)
    have h2 := h x List.mem_cons_self
    simp only [List.sum_cons, List.length_cons]
    omega
theorem sumOf_l0 (l : List Int) (h : ∀ x ∈ l, 0 ≤ x ∧ x ≤ 1000) (hl : l.length ≤ 1000000) (d : Nat) : ∀ (i : Nat) (n : Int), i ≤ l.length → l.length - i = d → 0 ≤ n ∧ n ≤ 1000 * i →
    Tells (fun k => impl_sumOf.l0 k n l (l.length : Int) (i : Int)) (n + (l.drop i).sum) ∧ Tells (fun k => laws_kSum.l0 k n l (l.length : Int) (i : Int)) (n + (l.drop i).sum) := by
  induction d with
  | zero =>
    intro i n h1 hd hn
    rw [List.drop_of_length_le (by omega)]
    simp only [List.sum_nil, Int.add_zero]
    constructor <;> refine Tells.succ (Tells.now fun k => ?_)
    · simp only [impl_sumOf.l0]; rw [if_neg (by omega)]
    · simp only [laws_kSum.l0]; rw [if_neg (by omega)]
  | succ d ih =>
    intro i n h1 hd hn
    have hin : i < l.length := by omega
    have hx := h l[i] (List.getElem_mem hin)
    have hrd := rd_at l i hin
    rw [List.drop_eq_getElem_cons hin, List.sum_cons]
    generalize l[i] = x at hx hrd
    have h2 := ih (i + 1) (n + x) (by omega) (by omega) (by omega)
    rw [Int.add_assoc] at h2
    rw [← Int.add_assoc] at h2
    rw [← Int.add_assoc]
    constructor
    · refine Tells.step (fun k => ?_) h2.1
      simp only [impl_sumOf.l0, hrd]
      rw [if_pos (by omega), if_pos (by omega), if_pos (by omega), w64 (x := n + x) (by omega) (by omega), w64 (x := (i : Int) + 1) (by omega) (by omega)]
      rfl
    · refine Tells.step (fun k => ?_) h2.2
      simp only [laws_kSum.l0, hrd]
      rw [if_pos (by omega), if_pos (by omega), if_pos (by omega), w64 (x := n + x) (by omega) (by omega), w64 (x := (i : Int) + 1) (by omega) (by omega)]
      rfl
theorem sums_tell (l : List Int) (h : ∀ x ∈ l, 0 ≤ x ∧ x ≤ 1000) (hl : l.length ≤ 1000000) : Tells (fun k => impl_sumOf.f k l) l.sum ∧ Tells (fun k => laws_kSum.f k l) l.sum := by
  have h := sumOf_l0 l h hl l.length 0 0 (by omega) (by omega) (by omega)
  unfold impl_sumOf.f laws_kSum.f
  simpa using h
theorem win_tells (l : List Int) (ht : isTr l = true) (s t : Nat) : Tells (fun k => impl_sumOf.f k ((l.take (t + 1)).drop s)) (win l s t) ∧ Tells (fun k => laws_kSum.f k ((l.take (t + 1)).drop s)) (win l s t) := by
  obtain ⟨h1, h2⟩ := isTr_iff.mp ht
  exact sums_tell _ (fun x hx => h2 x (List.mem_of_mem_take (List.mem_of_mem_drop hx))) (by simp; omega)
end Go.Proofs.Ythecknnmfghilaa.PA
