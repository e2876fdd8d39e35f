/- Visits and rotations of timed rings: the program and the reference tell the same; no condition but lengths below 2^44. -/
import Derived.Test.YtoeddkfbhjmbmaaTimed
import Derived.Test.YtoeddkfbhjmbmaaPA37
import Derived.Test.YtoeddkfbhjmbmaaPA42
import Derived.Test.YtoeddkfbhjmbmaaPA43
import Derived.Test.YtoeddkfbhjmbmaaPA38
import Derived.Test.YtoeddkfbhjmbmaaPA41
import Derived.Test.YtoeddkfbhjmbmaaPA36
import Derived.Test.YtoeddkfbhjmbmaaPA22
import Derived.Test.YtoeddkfbhjmbmaaPA20
namespace Go.Proofs.Ytoeddkfbhjmbmaa.PA
open Go.RowKit Go.Proofs.YtoeddkfbhjmbmaaW.PrintWords Go.Proofs.YtoeddkfbhjmbmaaW.PrintLast Go.Proofs.YtoeddkfbhjmbmaaW.PrintMore

theorem timed_of {t w : Int} {l : List Int} (h : timedB t w l = true) : (1 ≤ l.length ∧ l.length ≤ 12) ∧ (1 ≤ t ∧ t ≤ 200) ∧ (1 ≤ w ∧ w ≤ 20) ∧ (∀ x ∈ l, 0 ≤ x ∧ x ≤ 200) ∧ busyOf w l ≤ t := by
  simp only [timedB, inB, Bool.and_eq_true, decide_eq_true_eq, List.all_eq_true] at h
  exact ⟨by omega, by omega, by omega, h.2.2.2.1, h.2.2.2.2⟩
theorem least_tells (a b : Int) : spec_l1Least.f a b = some (mn a b) := by
  unfold spec_l1Least.f mn
  split <;> split <;> first | rfl | (congr 1; omega)
theorem most_tells (a b : Int) : spec_l1Most.f a b = some (mx a b) := by
  unfold spec_l1Most.f mx
  split <;> split <;> first | rfl | (congr 1; omega)
theorem rdL_nat (x : List (List Int)) (i : Nat) : rd_L2 x (i : Int) = x.getD i [] := by
  unfold rd_L2
  rw [Int.toNat_natCast]
theorem rdL_at (x : List (List Int)) (i : Nat) (h : i < x.length) : rd_L2 x (i : Int) = x[i] := by
  rw [rdL_nat]
  simp [List.getD, h]

/-- Is a row one of wishes? -/
def rowB (l row : List Int) : Bool := decide (row.length = l.length) && row.all fun x => inB 0 200 x
def wishedB (t w : Int) (l : List Int) (ws : List (List Int)) : Bool := timedB t w l && (decide (ws.length ≤ 20) && ws.all fun row => rowB l row)
theorem wishes_l0 (t w : Int) (l : List Int) (hl : l.length < 4611686018427387904) (ws : List (List Int)) (hw : ws.length < 4611686018427387904) (hr : ∀ row ∈ ws, row.length < 4611686018427387904) (d : Nat) :
    ∀ i, i ≤ ws.length → ws.length - i = d → Tells (fun k => spec_boWishes.l0 k ws (ws.length : Int) (i : Int) t w l) ((ws.drop i).all fun row => rowB l row) ∧
      Tells (fun k => impl_isWished.l0 k ws ws (ws.length : Int) (i : Int) t w l) (((ws.drop i).all fun row => rowB l row) && (timedB t w l && decide (ws.length ≤ 20))) := by
  induction d with
  | zero =>
    intro i h1 hd
    rw [List.drop_of_length_le (by omega)]
    constructor
    · refine Tells.succ (Tells.now fun k => ?_)
      simp only [spec_boWishes.l0]
      rw [if_neg (by omega)]
      rfl
    · refine Tells.succ ?_
      have e (k : Nat) : impl_isWished.l0 (k + 1) ws ws (ws.length : Int) (i : Int) t w l = (impl_IsTimedRing.f k t w l).bind fun t421 => (if t421 = true then (some (decide ((ws.length : Int) ≤ 20))) else (some false)) := by
        simp only [impl_isWished.l0]
        rw [if_neg (by omega)]
      simp only [e]
      refine Tells.bind (timed_tells t w l hl) (Tells.now fun _ => ?_)
      cases timedB t w l
      · simp
      · simp only [if_true, List.all_nil, Bool.true_and]
        congr 1
        simp
        omega
  | succ d ih =>
    intro i h1 hd
    have hin : i < ws.length := by omega
    obtain ⟨h2, h3⟩ := ih (i + 1) (by omega) (by omega)
    have hb := hr ws[i] (List.getElem_mem hin)
    rw [List.drop_eq_getElem_cons hin, List.all_cons]
    constructor
    · refine Tells.succ ?_
      have e (k : Nat) : spec_boWishes.l0 (k + 1) ws (ws.length : Int) (i : Int) t w l = if ((ws[i]).length : Int) = (l.length : Int) then ((spec_l1All.f k ws[i] 0 200).bind fun t361 => (if t361 = true then (spec_boWishes.l0 k ws (ws.length : Int) ((i + 1 : Nat) : Int) t w l) else (some false))) else (some false) := by
        simp only [spec_boWishes.l0]
        rw [if_pos (by omega), if_pos (by omega), if_pos (by omega), rdL_at ws i hin, w64 (by omega) (by omega)]
        rfl
      simp only [e]
      by_cases c : (ws[i]).length = l.length
      · simp only [rowB, c, decide_true, Bool.true_and, if_true]
        refine Tells.bind (l1All_tells 0 200 _ hb) ?_
        cases ws[i].all fun x => inB 0 200 x
        · simp only [Bool.false_eq_true, if_false, Bool.false_and]
          exact Tells.now fun _ => rfl
        · simp only [if_true, Bool.true_and]
          exact h2
      · have c' : ¬ ((ws[i]).length : Int) = (l.length : Int) := by omega
        simp only [rowB, c, c', decide_false, Bool.false_and, if_false]
        exact Tells.now fun _ => rfl
    · refine Tells.succ ?_
      have e (k : Nat) : impl_isWished.l0 (k + 1) ws ws (ws.length : Int) (i : Int) t w l = if ((ws[i]).length : Int) = (l.length : Int) then ((impl_allWithin.f ws[i] 0 200).bind fun t420 => (if t420 = true then (impl_isWished.l0 k ws ws (ws.length : Int) ((i + 1 : Nat) : Int) t w l) else (some false))) else (some false) := by
        simp only [impl_isWished.l0]
        rw [if_pos (by omega), if_pos (by omega), if_pos (by omega), rdL_at ws i hin, w64 (by omega) (by omega)]
        rfl
      simp only [e, impl_allWithin.f, if_pos hb, Option.bind_some]
      by_cases c : (ws[i]).length = l.length
      · simp only [rowB, c, decide_true, Bool.true_and, if_true]
        cases ws[i].all fun x => inB 0 200 x
        · simp only [Bool.false_eq_true, if_false, Bool.false_and]
          exact Tells.now fun _ => rfl
        · simp only [if_true, Bool.true_and]
          exact h3
      · have c' : ¬ ((ws[i]).length : Int) = (l.length : Int) := by omega
        simp only [rowB, c, c', decide_false, Bool.false_and, if_false]
        exact Tells.now fun _ => rfl
theorem wished_tells (t w : Int) (l : List Int) (hl : l.length < 4611686018427387904) (ws : List (List Int)) (hw : ws.length < 4611686018427387904) (hr : ∀ row ∈ ws, row.length < 4611686018427387904) :
    Tells (fun k => spec_boWishes.f k t w l ws) (wishedB t w l ws) ∧ Tells (fun k => impl_isWished.f k t w l ws) (wishedB t w l ws) := by
  obtain ⟨h1, h2⟩ := wishes_l0 t w l hl ws hw hr ws.length 0 (by omega) (by omega)
  simp only [List.drop_zero] at h1 h2
  constructor
  · simp only [spec_boWishes.f]
    refine Tells.bind (specTimed_tells t w l hl) ?_
    unfold wishedB
    cases timedB t w l
    · simp only [Bool.false_eq_true, if_false, Bool.false_and]
      refine Tells.succ (Tells.now fun k => ?_)
      simp [spec_boWishes.j0]
    · simp only [if_true, Bool.true_and]
      refine Tells.succ ?_
      by_cases c : ws.length ≤ 20
      · have c' : ¬ (ws.length : Int) > 20 := by omega
        simp only [spec_boWishes.j0, c, c', decide_true, decide_false, Bool.false_eq_true, if_false, Bool.true_and]
        exact h1
      · have c' : (ws.length : Int) > 20 := by omega
        simp only [spec_boWishes.j0, c, c', decide_true, decide_false, if_true, Bool.false_and]
        exact Tells.now fun _ => rfl
  · simp only [impl_isWished.f]
    have e : wishedB t w l ws = ((ws.all fun row => rowB l row) && (timedB t w l && decide (ws.length ≤ 20))) := by
      unfold wishedB
      cases timedB t w l <;> cases decide (ws.length ≤ 20) <;> cases (ws.all fun row => rowB l row) <;> rfl
    rw [e]
    exact h2
theorem wished_of {t w : Int} {l : List Int} {ws : List (List Int)} (h : wishedB t w l ws = true) : timedB t w l = true ∧ ws.length ≤ 20 ∧ ∀ row ∈ ws, row.length = l.length ∧ ∀ x ∈ row, 0 ≤ x ∧ x ≤ 200 := by
  simp only [wishedB, rowB, inB, Bool.and_eq_true, decide_eq_true_eq, List.all_eq_true] at h
  exact h

/-- What the reference tells of visits, the program tells, too. -/
theorem visits_follow (k : Nat) : (∀ (last : List Int) (out : List (List Int)) (since : List Int) (tick : Int) (ws : List (List Int)) (n i t w : Int) (l : List Int) (a : List (List Int)) (b : List Int),
      spec_boVisits.l1 k last out since tick ws n i t w l = some (a, b) → impl_TimedRing_visits.l1 k out tick last ws n i t w l = some a) ∧
    (∀ (last : List Int) (out : List (List Int)) (since : List Int) (tick : Int) (ws : List (List Int)) (n i : Int) (row : List Int) (m j t w : Int) (l : List Int) (a : List (List Int)) (b : List Int),
      spec_boVisits.l2 k last out since tick ws n i row m j t w l = some (a, b) → impl_TimedRing_visits.l2 k out tick last ws n i row m j t w l = some a) := by
  induction k with
  | zero => exact ⟨fun _ _ _ _ _ _ _ _ _ _ _ _ h => by simp [spec_boVisits.l1] at h, fun _ _ _ _ _ _ _ _ _ _ _ _ _ _ _ h => by simp [spec_boVisits.l2] at h⟩
  | succ k ih =>
    constructor
    · intro last out since tick ws n i t w l a b h
      simp only [spec_boVisits.l1] at h
      simp only [impl_TimedRing_visits.l1]
      by_cases c1 : i < n
      · rw [if_pos c1] at h ⊢
        by_cases c2 : 0 ≤ i
        · rw [if_pos c2] at h ⊢
          by_cases c3 : i < (ws.length : Int)
          · rw [if_pos c3] at h ⊢
            exact ih.2 _ _ _ _ _ _ _ _ _ _ _ _ _ _ _ h
          · rw [if_neg c3] at h
            cases h
        · rw [if_neg c2] at h
          cases h
      · rw [if_neg c1] at h ⊢
        simp only [Option.some.injEq, Prod.mk.injEq] at h
        rw [h.1]
    · intro last out since tick ws n i row m j t w l a b h
      simp only [spec_boVisits.l2, most_tells, least_tells, Option.bind_some] at h
      simp only [impl_TimedRing_visits.l2]
      by_cases c1 : j < m
      · rw [if_pos c1] at h ⊢
        by_cases c2 : 0 ≤ j
        · rw [if_pos c2] at h ⊢
          by_cases c3 : j < (row.length : Int)
          · rw [if_pos c3] at h ⊢
            by_cases c4 : j < (last.length : Int)
            · rw [if_pos c4] at h ⊢
              by_cases c5 : out.length < 5864062014805
              · rw [if_pos c5] at h ⊢
                by_cases c6 : since.length < 17592186044416
                · rw [if_pos c6] at h
                  by_cases c7 : j < (l.length : Int)
                  · rw [if_pos c7] at h ⊢
                    exact ih.2 _ _ _ _ _ _ _ _ _ _ _ _ _ _ _ h
                  · rw [if_neg c7] at h
                    cases h
                · rw [if_neg c6] at h
                  cases h
              · rw [if_neg c5] at h
                cases h
            · rw [if_neg c4] at h
              cases h
          · rw [if_neg c3] at h
            cases h
        · rw [if_neg c2] at h
          cases h
      · rw [if_neg c1] at h ⊢
        exact ih.1 _ _ _ _ _ _ _ _ _ _ _ _ h

def hd0 (out : List (List Int)) (i : Nat) : Int := (out.getD i []).getD 0 0
/-- What holds in round r ahead of the visit to station s. -/
structure Went (n r s : Nat) (last : List Int) (out : List (List Int)) (since : List Int) : Prop where
  ll : last.length = n
  lo : out.length = r * n + s
  ls : since.length = r * n + s
  three : ∀ i, i < out.length → (out.getD i []).length = 3
  now : ∀ q, q < s → last.getD q 0 = hd0 out (r * n + q)
  old : ∀ q, s ≤ q → q < n → 1 ≤ r → last.getD q 0 = hd0 out ((r - 1) * n + q)
  rot : ∀ i, n ≤ i → i < out.length → since.getD i 0 = wrap64 (hd0 out i - hd0 out (i - n))
theorem hd0_snoc {out : List (List Int)} {x : List Int} {i : Nat} (h : i < out.length) : hd0 (out ++ [x]) i = hd0 out i := by
  simp [hd0, List.getD_eq_getElem?_getD, List.getElem?_append_left h]
theorem getD_snoc {α : Type} {l : List α} {x z : α} {i : Nat} (h : i < l.length) : (l ++ [x]).getD i z = l.getD i z := by
  rw [List.getD_eq_getElem?_getD, List.getD_eq_getElem?_getD, List.getElem?_append_left h]
theorem getD_last {α : Type} {l : List α} {x z : α} : (l ++ [x]).getD l.length z = x := by
  rw [List.getD_eq_getElem?_getD, List.getElem?_append_right (by omega)]
  simp
theorem Went.step {n r s : Nat} {last : List Int} {out : List (List Int)} {since : List Int} (h : Went n r s last out since) (hs : s < n) (tick free : Int) :
    Went n r (s + 1) (last.set s tick) (out ++ [[tick, (s : Int), free]]) (since ++ [wrap64 (tick - last.getD s 0)]) := by
  have hll := h.ll
  have hlo := h.lo
  have hls := h.ls
  refine ⟨by simpa using hll, by simp; omega, by simp; omega, ?_, ?_, ?_, ?_⟩
  · intro i hi
    by_cases c : i < out.length
    · rw [getD_snoc c]
      exact h.three i c
    · have : i = out.length := by simp at hi; omega
      subst this
      rw [getD_last]
      rfl
  · intro q hq
    by_cases c : q = s
    · subst c
      rw [← hlo]
      unfold hd0
      rw [getD_last, List.getD_eq_getElem?_getD, List.getElem?_set_self (by omega)]
      rfl
    · rw [hd0_snoc (by omega), ← h.now q (by omega), List.getD_eq_getElem?_getD, List.getD_eq_getElem?_getD, List.getElem?_set_ne (by omega)]
  · intro q hq hqn hr
    have e : (r - 1) * n + n = r * n := by
      obtain ⟨r, rfl⟩ : ∃ m, r = m + 1 := ⟨r - 1, by omega⟩
      rw [Nat.succ_mul]
      simp
    rw [hd0_snoc (by omega), ← h.old q (by omega) hqn hr, List.getD_eq_getElem?_getD, List.getD_eq_getElem?_getD, List.getElem?_set_ne (by omega)]
  · intro i hi hil
    by_cases c : i < out.length
    · rw [hd0_snoc c, hd0_snoc (by omega), getD_snoc (by omega)]
      exact h.rot i hi c
    · have hio : i = out.length := by simp at hil; omega
      subst hio
      have hr1 : 1 ≤ r := by
        rcases Nat.eq_zero_or_pos r with rfl | hp
        · simp at hlo
          omega
        · exact hp
      have e : (r - 1) * n + n = r * n := by
        obtain ⟨r, rfl⟩ : ∃ m, r = m + 1 := ⟨r - 1, by omega⟩
        rw [Nat.succ_mul]
        simp
      rw [hd0_snoc (i := out.length - n) (by omega), show (since ++ [wrap64 (tick - last.getD s 0)]).getD out.length 0 = wrap64 (tick - last.getD s 0) from by rw [show out.length = since.length by omega]; exact getD_last,
        h.old s (Nat.le_refl _) hs hr1, show out.length - n = (r - 1) * n + s from by omega]
      congr 1
      unfold hd0
      rw [getD_last]
      rfl
theorem Went.round {n r : Nat} {last : List Int} {out : List (List Int)} {since : List Int} (h : Went n r n last out since) : Went n (r + 1) 0 last out since := by
  have hlo := h.lo
  have hls := h.ls
  refine ⟨h.ll, by rw [Nat.succ_mul]; omega, by rw [Nat.succ_mul]; omega, h.three, fun q hq => by omega, fun q _ hq _ => ?_, h.rot⟩
  rw [h.now q hq]
  simp

/-- All that is told of visits. -/
def Told (n rounds : Nat) (x : List (List Int) × List Int) : Prop := x.1.length = rounds * n ∧ x.2.length = rounds * n ∧ (∀ i, i < x.1.length → (x.1.getD i []).length = 3) ∧ ∀ i, n ≤ i → i < x.1.length → x.2.getD i 0 = wrap64 (hd0 x.1 i - hd0 x.1 (i - n))
theorem visits_l1 (ws : List (List Int)) (t w : Int) (l : List Int) (hl : l.length ≤ 12) (hw : ws.length ≤ 20) (hr : ∀ row ∈ ws, row.length = l.length) (d : Nat) :
    ∀ (r : Nat) (last : List Int) (out : List (List Int)) (since : List Int) (tick : Int), r ≤ ws.length → ws.length - r = d → Went l.length r 0 last out since →
      ∃ x, Tells (fun k => spec_boVisits.l1 k last out since tick ws (ws.length : Int) (r : Int) t w l) x ∧ Told l.length ws.length x := by
  induction d with
  | zero =>
    intro r last out since tick h1 hd hI
    refine ⟨(out, since), Tells.succ (Tells.now fun k => ?_), ?_⟩
    · simp only [spec_boVisits.l1]
      rw [if_neg (by omega)]
    · have e : r = ws.length := by omega
      subst e
      exact ⟨by have := hI.lo; simpa using this, by have := hI.ls; simpa using this, hI.three, hI.rot⟩
  | succ d ih =>
    intro r last out since tick h1 hd hI
    have hin : r < ws.length := by omega
    have hrow := hr ws[r] (List.getElem_mem hin)
    have e (k : Nat) : spec_boVisits.l1 (k + 1) last out since tick ws (ws.length : Int) (r : Int) t w l = spec_boVisits.l2 k last out since tick ws (ws.length : Int) (r : Int) ws[r] ((ws[r]).length : Int) 0 t w l := by
      simp only [spec_boVisits.l1]
      rw [if_pos (by omega), if_pos (by omega), if_pos (by omega), rdL_at ws r hin]
    have key := for_rule (fun k s (x : List Int × List (List Int) × List Int × Int) => spec_boVisits.l2 k x.1 x.2.1 x.2.2.1 x.2.2.2 ws (ws.length : Int) (r : Int) ws[r] ((ws[r]).length : Int) (s : Int) t w l) l.length
      (fun s x => Went l.length r s x.1 x.2.1 x.2.2.1) (Told l.length ws.length)
      (fun s x hs hx => by
        obtain ⟨last, out, since, tick⟩ := x
        have hll := hx.ll
        have hlo := hx.lo
        have hls := hx.ls
        have hbig : r * l.length ≤ 20 * 12 := Nat.mul_le_mul (by omega) hl
        simp only at hll hlo hls
        refine .inl ⟨(last.set s tick, out ++ [[tick, (s : Int), mn (rd ws[r] (s : Int)) (mx 0 (wrap64 (t - wrap64 (tick - rd last (s : Int)))))]], since ++ [wrap64 (tick - last.getD s 0)],
          wrap64 (tick + wrap64 (wrap64 (rd l (s : Int) + mn (rd ws[r] (s : Int)) (mx 0 (wrap64 (t - wrap64 (tick - rd last (s : Int)))))) + w))), ⟨0, fun k _ => ?_⟩, hx.step hs tick (mn (rd ws[r] (s : Int)) (mx 0 (wrap64 (t - wrap64 (tick - rd last (s : Int))))))⟩
        simp only [spec_boVisits.l2, most_tells, least_tells, Option.bind_some]
        rw [if_pos (by omega), if_pos (by omega), if_pos (by omega), if_pos (by omega), if_pos (by omega), if_pos (by omega), if_pos (by omega), w64 (x := (s : Int) + 1) (by omega) (by omega), Int.toNat_natCast, rd_nat last s]
        rfl)
      (fun x hx => by
        obtain ⟨last, out, since, tick⟩ := x
        obtain ⟨y, hy, hq⟩ := ih (r + 1) last out since tick (by omega) (by omega) hx.round
        refine ⟨y, Tells.step (fun k => ?_) hy, hq⟩
        simp only [spec_boVisits.l2]
        rw [if_neg (by omega), w64 (x := (r : Int) + 1) (by omega) (by omega)]
        rfl)
    obtain ⟨x, hx, hq⟩ := key 0 (last, out, since, tick) (by omega) hI
    exact ⟨x, Tells.step e hx, hq⟩
/-- The last visits ahead of the first round. -/
def aheadOf (w : Int) (n : Nat) : Nat → List Int
  | 0 => []
  | i + 1 => aheadOf w n i ++ [wrap64 (wrap64 ((i : Int) - (n : Int)) * w)]
theorem ahead_length (w : Int) (n i : Nat) : (aheadOf w n i).length = i := by
  induction i with
  | zero => rfl
  | succ i ih => simp [aheadOf, ih]
theorem specAhead_l0 (ws : List (List Int)) (t w : Int) (l : List Int) (hl : l.length ≤ 12) (d : Nat) : ∀ (i : Nat) (x : List Int) (r : List (List Int) × List Int), x.length = l.length → i ≤ l.length → l.length - i = d → x.take i = aheadOf w l.length i →
    Tells (fun k => spec_boVisits.l1 k (aheadOf w l.length l.length) [] [] 0 ws (ws.length : Int) 0 t w l) r → Tells (fun k => spec_boVisits.l0 k ws (l.length : Int) x (l.length : Int) (i : Int) t w l) r := by
  induction d with
  | zero =>
    intro i x r hx h1 hd he hr
    have hi : i = l.length := by omega
    subst hi
    rw [List.take_of_length_le (by omega)] at he
    rw [← he] at hr
    refine Tells.step (fun k => ?_) hr
    simp only [spec_boVisits.l0]
    rw [if_neg (by omega)]
  | succ d ih =>
    intro i x r hx h1 hd he hr
    refine Tells.step (fun k => ?_) (ih (i + 1) (x.set i (wrap64 (wrap64 ((i : Int) - (l.length : Int)) * w))) r (by simpa using hx) (by omega) (by omega) ?_ hr)
    · simp only [spec_boVisits.l0]
      rw [if_pos (by omega), if_pos (by omega), if_pos (by omega), w64 (x := (i : Int) + 1) (by omega) (by omega), Int.toNat_natCast]
      rfl
    · rw [take_set_succ x i _ (by omega), he]
      rfl
theorem implAhead_l0 (ws : List (List Int)) (t w : Int) (l : List Int) (hl : l.length ≤ 12) (d : Nat) : ∀ (i : Nat) (r : List (List Int)), i ≤ l.length → l.length - i = d →
    Tells (fun k => impl_TimedRing_visits.l1 k [] 0 (aheadOf w l.length l.length) ws (ws.length : Int) 0 t w l) r → Tells (fun k => impl_TimedRing_visits.l0 k ws [] 0 (aheadOf w l.length i) (l.length : Int) (i : Int) t w l) r := by
  induction d with
  | zero =>
    intro i r h1 hd hr
    have hi : i = l.length := by omega
    subst hi
    refine Tells.step (fun k => ?_) hr
    simp only [impl_TimedRing_visits.l0]
    rw [if_neg (by omega)]
  | succ d ih =>
    intro i r h1 hd hr
    refine Tells.step (fun k => ?_) (ih (i + 1) r (by omega) (by omega) hr)
    simp only [impl_TimedRing_visits.l0]
    rw [if_pos (by omega), if_pos (by rw [ahead_length]; omega), w64 (x := (i : Int) + 1) (by omega) (by omega)]
    rfl
theorem visits_tell (t w : Int) (l : List Int) (ws : List (List Int)) (h : wishedB t w l ws = true) :
    ∃ x, Tells (fun k => spec_boVisits.f k t w l ws) x ∧ Tells (fun k => impl_TimedRing_visits.f k t w l ws) x.1 ∧ Told l.length ws.length x := by
  obtain ⟨h1, h2, h3⟩ := wished_of h
  have h4 := timed_of h1
  obtain ⟨x, hx, hq⟩ := visits_l1 ws t w l (by omega) h2 (fun row hrow => (h3 row hrow).1) ws.length 0 (aheadOf w l.length l.length) [] [] 0 (by omega) (by omega)
    ⟨ahead_length _ _ _, by simp, by simp, fun i hi => by simp at hi, fun q hq => by omega, fun q _ _ hr => by omega, fun i _ hi => by simp at hi⟩
  refine ⟨x, ?_, ?_, hq⟩
  · simp only [spec_boVisits.f, show (0 : Int) ≤ (l.length : Int) from by omega, show (l.length : Int).toNat ≤ 35184372088832 from by omega, if_true]
    simp only [Option.bind_some, List.length_replicate, Int.toNat_natCast]
    exact specAhead_l0 ws t w l (by omega) l.length 0 _ x (by simp) (by omega) (by omega) (by simp [aheadOf]) hx
  · simp only [impl_TimedRing_visits.f]
    refine implAhead_l0 ws t w l (by omega) l.length 0 x.1 (by omega) (by omega) ?_
    obtain ⟨K, hK⟩ := hx
    exact ⟨K, fun k hk => (visits_follow k).1 _ _ _ _ _ _ _ _ _ _ x.1 x.2 (hK k hk)⟩
/-- The rotations. -/
theorem rotations_tell (t w : Int) (l : List Int) (ws : List (List Int)) (h : wishedB t w l ws = true) (hl : l.length < 4611686018427387904) (hr : ∀ row ∈ ws, row.length < 4611686018427387904) :
    ∃ out, Tells (fun k => spec_boRotations.f k t w l ws) out ∧ Tells (fun k => impl_RotationsOf.f k t w l ws) (out, true) ∧ out.length ≤ 240 := by
  obtain ⟨x, h1, h2, h3, h4, h5, h6⟩ := visits_tell t w l ws h
  obtain ⟨g1, g2, g3⟩ := wished_of h
  have g4 := timed_of g1
  have hbig : ws.length * l.length ≤ 20 * 12 := Nat.mul_le_mul g2 (by omega)
  refine ⟨x.2.drop l.length, ?_, ?_, by simp; omega⟩
  · simp only [spec_boRotations.f]
    refine Tells.bind h1 (Tells.now fun _ => ?_)
    by_cases c : (x.2.length : Int) < (l.length : Int)
    · rw [if_pos c, List.drop_of_length_le (by omega)]
    · rw [if_neg c, if_pos (by omega), if_pos (by omega)]
      simp only [spec_l1Own.f, Option.bind_some, List.length_nil, List.nil_append, Int.toNat_natCast]
      rw [if_pos (by simp; omega)]
      rfl
  · simp only [impl_RotationsOf.f]
    refine Tells.bind (wished_tells t w l hl ws (by omega) hr).2 ?_
    rw [h]
    simp only [if_true]
    refine Tells.bind h2 ?_
    have key := for_rule (fun k i (out : List Int) => impl_RotationsOf.l0 k x.1 (l.length : Int) out (i : Int)) x.1.length (fun i out => l.length ≤ i ∧ out = (x.2.drop l.length).take (i - l.length)) (fun r => r = (x.2.drop l.length, true))
      (fun i out hi hinv => by
        obtain ⟨hli, rfl⟩ := hinv
        refine .inl ⟨(x.2.drop l.length).take (i + 1 - l.length), ⟨0, fun k _ => ?_⟩, by omega, rfl⟩
        have e3 := h5 i hi
        have e4 := h5 (i - l.length) (by omega)
        simp only [impl_RotationsOf.l0]
        rw [w64 (x := (i : Int) - (l.length : Int)) (by omega) (by omega), show (i : Int) - (l.length : Int) = ((i - l.length : Nat) : Int) from by omega, rdL_nat, rdL_nat, e3, e4,
          if_pos (by omega), if_pos (by omega), if_pos (by omega), if_pos (by omega), if_pos (by omega), if_pos (by omega), if_pos (by simp; omega), w64 (x := (i : Int) + 1) (by omega) (by omega)]
        have e5 : (x.2.drop l.length).take (i - l.length) ++ [wrap64 (rd (x.1.getD i []) 0 - rd (x.1.getD (i - l.length) []) 0)] = (x.2.drop l.length).take (i + 1 - l.length) := by
          rw [show i + 1 - l.length = (i - l.length) + 1 by omega, List.take_succ_eq_append_getElem (by simp; omega), List.getElem_drop]
          congr 2
          have e6 := h6 i hli hi
          rw [List.getD_eq_getElem?_getD, List.getElem?_eq_getElem (by omega)] at e6
          simp only [Option.getD_some] at e6
          rw [show x.2[l.length + (i - l.length)]'(by omega) = x.2[i]'(by omega) from by congr 1; omega, e6]
          rfl
        rw [e5]
        rfl)
      (fun out hinv => by
        obtain ⟨_, rfl⟩ := hinv
        refine ⟨_, Tells.succ (Tells.now fun k => ?_), rfl⟩
        simp only [impl_RotationsOf.l0]
        rw [if_neg (by omega), List.take_of_length_le (by simp; omega)])
    by_cases c : l.length ≤ x.1.length
    · obtain ⟨r, hr1, rfl⟩ := key l.length [] c ⟨by omega, by simp⟩
      exact hr1
    · refine Tells.succ (Tells.now fun k => ?_)
      simp only [impl_RotationsOf.l0]
      rw [if_neg (by omega), List.drop_of_length_le (by omega)]
end Go.Proofs.Ytoeddkfbhjmbmaa.PA
