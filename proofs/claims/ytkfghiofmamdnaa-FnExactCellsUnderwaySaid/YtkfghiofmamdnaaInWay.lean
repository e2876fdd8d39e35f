/- Cells of an insertion ring are in one place each, and what has been told stays; no condition but what each theorem names. -/
import Derived.Test.YtkfghiofmamdnaaInPt
namespace Go.Proofs.Ytkfghiofmamdnaa.PA
open Go.RowKit Go.Proofs.YtkfghiofmamdnaaW.PrintWords Go.Proofs.YtkfghiofmamdnaaW.PrintLast Go.Proofs.YtkfghiofmamdnaaW.PrintMore
set_option linter.unusedVariables false
set_option linter.unusedSimpArgs false
namespace Ins
/-! sums -/
theorem sumN_add (f g : Nat → Int) : ∀ n : Nat, sumN (fun i => f i + g i) n = sumN f n + sumN g n
  | 0 => rfl
  | n + 1 => by rw [sumN, sumN_add f g n, sumN, sumN]; omega
theorem sumN_sub (f g : Nat → Int) : ∀ n : Nat, sumN (fun i => f i - g i) n = sumN f n - sumN g n
  | 0 => rfl
  | n + 1 => by rw [sumN, sumN_sub f g n, sumN, sumN]; omega
def ind (p : Prop) [Decidable p] : Int := if p then 1 else 0
theorem ind_pos {p : Prop} [Decidable p] (h : p) : ind p = 1 := if_pos h
theorem ind_neg {p : Prop} [Decidable p] (h : ¬ p) : ind p = 0 := if_neg h
theorem ind_01 (p : Prop) [Decidable p] : (p ∧ ind p = 1) ∨ (¬ p ∧ ind p = 0) := by
  by_cases h : p
  · exact .inl ⟨h, ind_pos h⟩
  · exact .inr ⟨h, ind_neg h⟩
theorem sumN_one (a : Nat) (v : Int) : ∀ n : Nat, sumN (fun i => if i = a then v else 0) n = if a < n then v else 0
  | 0 => rfl
  | n + 1 => by
    rw [sumN, sumN_one a v n]
    by_cases h : a < n
    · rw [if_pos h, if_neg (show ¬ n = a by omega), if_pos (show a < n + 1 by omega)]; omega
    · by_cases h2 : n = a
      · rw [if_neg h, if_pos h2, if_pos (show a < n + 1 by omega)]; omega
      · rw [if_neg h, if_neg h2, if_neg (show ¬ a < n + 1 by omega)]; omega
theorem sumN_pos {f : Nat → Int} : ∀ n : Nat, 0 < sumN f n → ∃ i, i < n ∧ 0 < f i
  | 0, h => by simp [sumN] at h
  | n + 1, h => by
    rw [sumN] at h
    by_cases hn : 0 < f n
    · exact ⟨n, by omega, hn⟩
    · obtain ⟨i, hi, h2⟩ := sumN_pos (f := f) n (by omega)
      exact ⟨i, by omega, h2⟩
theorem sumN_ge {f : Nat → Int} : ∀ n : Nat, (∀ i, i < n → 0 ≤ f i) → ∀ i, i < n → f i ≤ sumN f n
  | 0, _, i, hi => by omega
  | n + 1, h, i, hi => by
    rw [sumN]
    have h0 := sumN_nonneg n (fun i hi => h i (by omega))
    by_cases e : i = n
    · subst e; omega
    · have := sumN_ge n (fun i hi => h i (by omega)) i (by omega)
      have := h n (by omega)
      omega
def cntI (i : Int) (l : List Int) : Int := lsum (fun x => ind (x = i)) l
theorem cntI_nonneg (i : Int) (l : List Int) : 0 ≤ cntI i l := lsum_nonneg _ _ fun x _ => by unfold ind; split <;> omega
theorem cntI_append (i : Int) (b : List Int) : ∀ a : List Int, cntI i (a ++ b) = cntI i a + cntI i b
  | [] => by simp [cntI, lsum]
  | x :: a => by
    have := cntI_append i b a
    simp only [cntI, List.cons_append, lsum] at this ⊢
    omega
theorem cntI_mem (i : Int) : ∀ a : List Int, 0 < cntI i a ↔ i ∈ a
  | [] => by simp [cntI, lsum]
  | x :: a => by
    have h := cntI_mem i a
    have h0 := cntI_nonneg i a
    simp only [cntI, lsum, List.mem_cons] at h h0 ⊢
    rcases ind_01 (x = i) with ⟨h1, h2⟩ | ⟨h1, h2⟩
    · rw [h2]
      exact ⟨fun _ => .inl h1.symm, fun _ => by omega⟩
    · rw [h2]
      constructor
      · intro h3
        exact .inr (h.1 (by omega))
      · rintro (h3 | h3)
        · exact absurd h3.symm h1
        · have := h.2 h3; omega
/-- How often a cell is underway. -/
def cntB (n : Nat) (st : St) (i : Nat) : Int := sumN (fun s => cntI i (st.buf.getD s [])) n
def cntL (n : Nat) (st : St) (i : Nat) : Int := sumN (fun s => ind (rd st.links (s : Int) = i + 1)) n
theorem cntL_in {n : Nat} (st : St) (i : Nat) (n2 : 2 ≤ n) : sumN (fun s => ind (inAt n st (s : Int) = i + 1)) n = cntL n st i := by
  obtain ⟨m, rfl⟩ : ∃ m, n = m + 1 := ⟨n - 1, by omega⟩
  have h2 := sumN_shift (fun s => ind (inAt (m + 1 : Nat) st (s : Int) = i + 1)) m
  have h1 : sumN (fun s => ind (inAt (m + 1 : Nat) st ((s + 1 : Nat) : Int) = i + 1)) m = sumN (fun s => ind (rd st.links (s : Int) = i + 1)) m := sumN_congr m fun s hs => by rw [inAt_succ st (by omega)]
  have h0 : ind (inAt (m + 1 : Nat) st ((0 : Nat) : Int) = i + 1) = ind (rd st.links (m : Int) = i + 1) := by rw [inAt_zero st n2]; rfl
  have h3 : cntL (m + 1) st i = sumN (fun s => ind (rd st.links (s : Int) = i + 1)) m + ind (rd st.links (m : Int) = i + 1) := rfl
  omega
structure Bal (n : Nat) (ms : List S60) (j : Nat) (st : St) : Prop where
  bal : ∀ i : Nat, i < ms.length → cntB n st i + cntL n st i + ind (0 ≤ rd st.rdd i) = ind (0 ≤ rd st.ins i)
  ins : ∀ i : Nat, i < ms.length → rd st.ins i = -1 ∨ (0 ≤ rd st.ins i ∧ rd st.ins i < j ∧ (rd_T60 ms i).f0 ≤ rd st.ins i)
  rdd : ∀ i : Nat, i < ms.length → rd st.rdd i = -1 ∨ (0 ≤ rd st.rdd i ∧ rd st.rdd i < j)
theorem cntB_nonneg (n : Nat) (st : St) (i : Nat) : 0 ≤ cntB n st i := sumN_nonneg n fun s _ => cntI_nonneg _ _
theorem cntL_nonneg (n : Nat) (st : St) (i : Nat) : 0 ≤ cntL n st i := sumN_nonneg n fun s _ => by unfold ind; split <;> omega
theorem rdNow_cnt {n : Nat} {room : Int} {ms : List S60} {st : St} (hg : Good n room ms) {i : Nat} (hi : i < ms.length) (h : rdNow n ms st i) : 1 ≤ cntL n st i := by
  have hm := hg.m i hi
  rw [← cntL_in st i hg.n2]
  obtain ⟨s, hs⟩ : ∃ s : Nat, (rd_T60 ms i).f2 = (s : Int) := ⟨(rd_T60 ms i).f2.toNat, by omega⟩
  have := sumN_ge (f := fun s : Nat => ind (inAt n st (s : Int) = i + 1)) n (fun s _ => by simp only [ind]; split <;> omega) s (by omega)
  have e : ind (inAt n st (s : Int) = i + 1) = 1 := ind_pos (by unfold rdNow at h; rw [hs] at h; exact h)
  omega
theorem arr_cnt {n : Nat} {K : Nat} {ms : List S60} {st : St} (hw : Wf n ms.length K st) (i s : Nat) (hs : s < n) : cntI i (arr n ms st s) = ind (inAt n st (s : Int) = i + 1) - (if (s : Int) = (rd_T60 ms i).f2 then ind (rdNow n ms st i) else 0) := by
  have hin := hw.in_ (s : Int) (by omega) (by omega)
  unfold arr
  by_cases hx : inAt n st s - 1 < 0
  · rw [if_pos hx, ind_neg (by omega)]
    by_cases e : (s : Int) = (rd_T60 ms i).f2
    · rw [if_pos e, ind_neg (by unfold rdNow; rw [← e]; omega)]; rfl
    · rw [if_neg e]; rfl
  · rw [if_neg hx]
    by_cases hto : (rd_T60 ms (inAt n st s - 1)).f2 = s
    · rw [if_pos hto]
      by_cases hk : inAt n st (s : Int) = i + 1
      · have : (s : Int) = (rd_T60 ms i).f2 := by rw [show inAt n st s - 1 = (i : Int) by omega] at hto; exact hto.symm
        rw [ind_pos hk, if_pos this, ind_pos (by unfold rdNow; rw [← this]; exact hk)]; rfl
      · rw [ind_neg hk]
        by_cases e : (s : Int) = (rd_T60 ms i).f2
        · rw [if_pos e, ind_neg (by unfold rdNow; rw [← e]; exact hk)]; rfl
        · rw [if_neg e]; rfl
    · rw [if_neg hto]
      by_cases hk : inAt n st (s : Int) = i + 1
      · have : ¬ (s : Int) = (rd_T60 ms i).f2 := fun e => hto (by rw [show inAt n st s - 1 = (i : Int) by omega]; exact e.symm)
        rw [ind_pos hk, if_neg this]
        simp only [cntI, lsum]
        rw [ind_pos (by omega)]; rfl
      · rw [ind_neg hk]
        have e2 : cntI i [inAt n st s - 1] = 0 := by simp only [cntI, lsum]; rw [ind_neg (by omega)]; rfl
        rw [e2]
        by_cases e : (s : Int) = (rd_T60 ms i).f2
        · rw [if_pos e, ind_neg (by unfold rdNow; rw [← e]; exact hk)]; rfl
        · rw [if_neg e]; rfl
theorem mid_cnt {n : Nat} {room : Int} {K : Nat} {ms : List S60} {st : St} (hg : Good n room ms) (hw : Wf n ms.length K st) (i : Nat) (hi : i < ms.length) : sumN (fun s => cntI i (mid n ms st s)) n = cntB n st i + cntL n st i - ind (rdNow n ms st i) := by
  have hm := hg.m i hi
  obtain ⟨a, ha⟩ : ∃ a : Nat, (rd_T60 ms i).f2 = (a : Int) := ⟨(rd_T60 ms i).f2.toNat, by omega⟩
  have e : sumN (fun s => cntI i (mid n ms st s)) n = sumN (fun s => cntI i (st.buf.getD s []) + (ind (inAt n st (s : Int) = i + 1) - (if s = a then ind (rdNow n ms st i) else 0))) n := sumN_congr n fun s hs => by
    rw [mid, cntI_append, arr_cnt hw i s hs, ha]
    by_cases e : s = a
    · rw [if_pos e, if_pos (by omega)]
    · rw [if_neg e, if_neg (by omega)]
  rw [e, sumN_add, sumN_sub, sumN_one, if_pos (by omega), cntL_in st i hg.n2]
  show _ = sumN _ n + _ - _
  omega
theorem mid_range {n : Nat} {K : Nat} {ms : List S60} {st : St} (hw : Wf n ms.length K st) (s : Nat) (hs : s < n) : ∀ x ∈ mid n ms st s, 0 ≤ x ∧ x < ms.length := by
  intro x hx
  have hin := hw.in_ (s : Int) (by omega) (by omega)
  rcases List.mem_append.1 hx with hx | hx
  · exact (hw.row s).2 x hx
  · unfold arr at hx
    split at hx
    · simp at hx
    split at hx
    · simp at hx
    · rw [List.mem_singleton.1 hx]; omega
theorem out_cnt {n : Nat} {room : Int} {ow : Bool} {t : Int} {K : Nat} {ms : List S60} {st s' : St} (hw : Wf n ms.length K st) (T : TPt n room ow t ms st s') (i q : Nat) (hq : q < n) :
    cntI i (s'.buf.getD q []) + ind (rd s'.links (q : Int) = i + 1) = cntI i (mid n ms st q) + ind (ownB room ow t ms (half n t ms st) q = true ∧ ownC t ms st q = i) := by
  rw [T.buf q hq, T.links q hq]
  have hr := mid_range hw q hq
  by_cases hO : ownB room ow t ms (half n t ms st) q = true
  · rw [if_pos hO, if_pos hO]
    congr 1
    by_cases h : ownC t ms st q = i
    · rw [ind_pos (by omega), ind_pos ⟨hO, h⟩]
    · rw [ind_neg (by omega), ind_neg (fun h' => h h'.2)]
  · rw [if_neg hO, if_neg hO, ind_neg (fun h' : _ ∧ _ => hO h'.1)]
    cases hm : mid n ms st q with
    | nil =>
      simp only [List.tail_nil]
      rw [ind_neg (by omega)]
    | cons x tl =>
      have := hr x (by rw [hm]; simp)
      simp only [List.tail_cons, cntI, lsum]
      by_cases h : x = i
      · rw [ind_pos (by omega), ind_pos h]; omega
      · rw [ind_neg (by omega), ind_neg h]; omega
theorem Bal.tick {n : Nat} {room : Int} {ow : Bool} {K j : Nat} {ms : List S60} {st s' : St} (hg : Good n room ms) (hw : Wf n ms.length K st) (T : TPt n room ow j ms st s') (h : Bal n ms j st) : Bal n ms (j + 1) s' := by
  refine ⟨fun i hi => ?_, fun i hi => ?_, fun i hi => ?_⟩
  · have hb := h.bal i hi
    have hm := hg.m i hi
    obtain ⟨a, ha⟩ : ∃ a : Nat, (rd_T60 ms i).f1 = (a : Int) := ⟨(rd_T60 ms i).f1.toNat, by omega⟩
    have e1 : cntB n s' i + cntL n s' i = sumN (fun q => cntI i (mid n ms st q)) n + ind (ownB room ow j ms (half n j ms st) (rd_T60 ms i).f1 = true ∧ ownC j ms st (rd_T60 ms i).f1 = i) := by
      unfold cntB cntL
      rw [← sumN_add, sumN_congr (g := fun q => cntI i (mid n ms st q) + (if q = a then ind (ownB room ow j ms (half n j ms st) (rd_T60 ms i).f1 = true ∧ ownC j ms st (rd_T60 ms i).f1 = i) else 0)) n, sumN_add, sumN_one, if_pos (by omega)]
      intro q hq
      rw [out_cnt hw T i q hq]
      by_cases e : q = a
      · rw [if_pos e, ha, e]
      · rw [if_neg e, ind_neg]
        rintro ⟨_, h2⟩
        have := (ownC_facts h2).2.1
        omega
    rw [e1, mid_cnt hg hw i hi, T.rdd i hi, T.ins i hi]
    have hB0 := cntB_nonneg n st i
    have hL0 := cntL_nonneg n st i
    have hins : (ownB room ow j ms (half n j ms st) (rd_T60 ms i).f1 = true ∧ ownC j ms st (rd_T60 ms i).f1 = i) → rd st.ins i < 0 := fun hgo => (ownC_facts hgo.2).2.2.2.1
    have hrd : rdNow n ms st i → ind (0 ≤ rd st.rdd i) = 0 := fun hr => by
      have := rdNow_cnt hg hi hr
      rcases ind_01 (0 ≤ rd st.rdd i) with ⟨_, h2⟩ | ⟨_, h2⟩
      · rcases ind_01 (0 ≤ rd st.ins i) with ⟨_, h3⟩ | ⟨_, h3⟩ <;> omega
      · exact h2
    have eR : ind (0 ≤ if rdNow n ms st i then (j : Int) else rd st.rdd i) = ind (0 ≤ rd st.rdd i) + ind (rdNow n ms st i) := by
      by_cases hr : rdNow n ms st i
      · rw [hrd hr, ind_pos hr, ind_pos (by rw [if_pos hr]; omega)]; rfl
      · rw [ind_neg hr]
        simp only [if_neg hr]
        omega
    have eI : ind (0 ≤ if ownB room ow j ms (half n j ms st) (rd_T60 ms i).f1 = true ∧ ownC j ms st (rd_T60 ms i).f1 = i then (j : Int) else rd st.ins i) = ind (0 ≤ rd st.ins i) + ind (ownB room ow j ms (half n j ms st) (rd_T60 ms i).f1 = true ∧ ownC j ms st (rd_T60 ms i).f1 = i) := by
      by_cases hr : ownB room ow j ms (half n j ms st) (rd_T60 ms i).f1 = true ∧ ownC j ms st (rd_T60 ms i).f1 = i
      · rw [ind_neg (p := 0 ≤ rd st.ins i) (by have := hins hr; omega), ind_pos hr, ind_pos (by rw [if_pos hr]; omega)]; rfl
      · rw [ind_neg hr]
        simp only [if_neg hr]
        omega
    rw [eR, eI]
    omega
  · rw [T.ins i hi]
    split
    · rename_i hgo
      have := (ownC_facts hgo.2).2.2.1
      exact .inr ⟨by omega, by omega, this⟩
    · rcases h.ins i hi with h1 | h1
      · exact .inl h1
      · exact .inr ⟨h1.1, by omega, h1.2.2⟩
  · rw [T.rdd i hi]
    split
    · exact .inr ⟨by omega, by omega⟩
    · rcases h.rdd i hi with h1 | h1
      · exact .inl h1
      · exact .inr ⟨h1.1, by omega⟩
theorem st0_bal {n : Nat} (ms : List S60) : Bal n ms 0 (st0 n ms.length) := by
  have e0 : ∀ i : Nat, i < ms.length → rd (st0 n ms.length).ins i = -1 ∧ rd (st0 n ms.length).rdd i = -1 := fun i hi => ⟨rd_rep' _ _ _ hi, rd_rep' _ _ _ hi⟩
  refine ⟨fun i hi => ?_, fun i hi => .inl (e0 i hi).1, fun i hi => .inl (e0 i hi).2⟩
  have e1 : cntB n (st0 n ms.length) i = 0 := by
    have := sumN_le (f := fun s => cntI i ((st0 n ms.length).buf.getD s [])) (c := 0) n (fun s hs => by simp only [st0, getD_rep]; exact Int.le_refl 0)
    have h2 := cntB_nonneg n (st0 n ms.length) i
    unfold cntB at h2 ⊢
    omega
  have e2 : cntL n (st0 n ms.length) i = 0 := by
    have := sumN_le (f := fun s : Nat => ind (rd (st0 n ms.length).links (s : Int) = i + 1)) (c := 0) n (fun s hs => by
      have e : rd (st0 n ms.length).links s = 0 := rd_rep' _ _ _ hs
      simp only [e]
      rw [ind_neg (by omega)]
      omega)
    have h2 := cntL_nonneg n (st0 n ms.length) i
    unfold cntL at h2 ⊢
    omega
  rw [e1, e2, (e0 i hi).1, (e0 i hi).2]
  rfl
theorem stAt_pt {n : Nat} {room : Int} {ms : List S60} (hg : Good n room ms) (ow : Bool) (j : Nat) (hj : j ≤ 9990) : TPt n room ow j ms (stAt n room ow ms j) (stAt n room ow ms (j + 1)) :=
  tick_pt hg (K := 24 * j) (by omega) (stAt_wf room ow hg.n2 hg.n12 hg.M j (by omega)) ow j
theorem stAt_bal {n : Nat} {room : Int} {ms : List S60} (hg : Good n room ms) (ow : Bool) : ∀ j : Nat, j ≤ 9990 → Bal n ms j (stAt n room ow ms j)
  | 0, _ => st0_bal ms
  | j + 1, hj => (stAt_bal hg ow j (by omega)).tick hg (stAt_wf room ow hg.n2 hg.n12 hg.M j (by omega)) (stAt_pt hg ow j (by omega))
/-! what has been told stays -/
theorem ins_stays {n : Nat} {room : Int} {ms : List S60} (hg : Good n room ms) (ow : Bool) (i : Nat) (hi : i < ms.length) (j : Nat) : ∀ d : Nat, j + d ≤ 9990 →
    (0 ≤ rd (stAt n room ow ms j).ins i → rd (stAt n room ow ms (j + d)).ins i = rd (stAt n room ow ms j).ins i) ∧ (rd (stAt n room ow ms j).ins i < 0 → rd (stAt n room ow ms (j + d)).ins i = -1 ∨ (j : Int) ≤ rd (stAt n room ow ms (j + d)).ins i)
  | 0, hd => ⟨fun _ => rfl, fun h => .inl (by rcases (stAt_bal hg ow j (by omega)).ins i hi with h1 | h1 <;> simp only [Nat.add_zero] <;> omega)⟩
  | d + 1, hd => by
    obtain ⟨a, b⟩ := ins_stays hg ow i hi j d (by omega)
    have T := (stAt_pt hg ow (j + d) (by omega)).ins i hi
    rw [show j + (d + 1) = j + d + 1 by omega, T]
    refine ⟨fun h => ?_, fun h => ?_⟩
    · rw [if_neg, a h]
      rintro ⟨_, h2⟩
      have := (ownC_facts h2).2.2.2.1
      rw [a h] at this
      omega
    · split
      · exact .inr (by omega)
      · exact b h
theorem rdd_stays {n : Nat} {room : Int} {ms : List S60} (hg : Good n room ms) (ow : Bool) (i : Nat) (hi : i < ms.length) (j : Nat) : ∀ d : Nat, j + d ≤ 9990 →
    (0 ≤ rd (stAt n room ow ms j).rdd i → rd (stAt n room ow ms (j + d)).rdd i = rd (stAt n room ow ms j).rdd i) ∧ (rd (stAt n room ow ms j).rdd i < 0 → rd (stAt n room ow ms (j + d)).rdd i = -1 ∨ (j : Int) ≤ rd (stAt n room ow ms (j + d)).rdd i)
  | 0, hd => ⟨fun _ => rfl, fun h => .inl (by rcases (stAt_bal hg ow j (by omega)).rdd i hi with h1 | h1 <;> simp only [Nat.add_zero] <;> omega)⟩
  | d + 1, hd => by
    obtain ⟨a, b⟩ := rdd_stays hg ow i hi j d (by omega)
    have T := (stAt_pt hg ow (j + d) (by omega)).rdd i hi
    rw [show j + (d + 1) = j + d + 1 by omega, T]
    refine ⟨fun h => ?_, fun h => ?_⟩
    · rw [if_neg, a h]
      intro hr
      have h1 := rdNow_cnt hg hi hr
      have h2 := (stAt_bal hg ow (j + d) (by omega)).bal i hi
      have h3 := cntB_nonneg n (stAt n room ow ms (j + d)) i
      rw [ind_pos (p := 0 ≤ rd (stAt n room ow ms (j + d)).rdd i) (by rw [a h]; exact h)] at h2
      rcases ind_01 (0 ≤ rd (stAt n room ow ms (j + d)).ins i) with ⟨_, h5⟩ | ⟨_, h5⟩ <;> omega
    · split
      · exact .inr (by omega)
      · exact b h
/-- What is told behind all cells tells what was told behind each tick. -/
theorem told_at {n : Nat} {room : Int} {ms : List S60} (hg : Good n room ms) (ow : Bool) (D j : Nat) (hD : D ≤ 4000) (hj : j ≤ 4000) (i : Nat) (hi : i < ms.length) (hend : 0 ≤ rd (stAt n room ow ms D).rdd i) :
    (0 ≤ rd (stAt n room ow ms j).ins i ↔ rd (stAt n room ow ms D).ins i < j) ∧ (0 ≤ rd (stAt n room ow ms j).rdd i ↔ rd (stAt n room ow ms D).rdd i < j) ∧ 0 ≤ rd (stAt n room ow ms D).ins i := by
  have hbD := stAt_bal hg ow D (by omega)
  have hbj := stAt_bal hg ow j (by omega)
  have h0 : 0 ≤ rd (stAt n room ow ms D).ins i := by
    have h1 := hbD.bal i hi
    have h3 := cntB_nonneg n (stAt n room ow ms D) i
    have h4 := cntL_nonneg n (stAt n room ow ms D) i
    rw [ind_pos hend] at h1
    rcases ind_01 (0 ≤ rd (stAt n room ow ms D).ins i) with ⟨h5, _⟩ | ⟨_, h5⟩
    · exact h5
    · omega
  refine ⟨?_, ?_, h0⟩
  · by_cases hle : j ≤ D
    · obtain ⟨a, b⟩ := ins_stays hg ow i hi j (D - j) (by omega)
      rw [show j + (D - j) = D by omega] at a b
      constructor
      · intro h
        rw [a h]
        rcases hbj.ins i hi with h1 | h1 <;> omega
      · intro h
        by_cases hn : 0 ≤ rd (stAt n room ow ms j).ins i
        · exact hn
        · rcases b (by omega) with h1 | h1 <;> omega
    · obtain ⟨a, b⟩ := ins_stays hg ow i hi D (j - D) (by omega)
      rw [show D + (j - D) = j by omega] at a b
      rw [a h0]
      have := hbD.ins i hi
      constructor <;> intro h <;> omega
  · by_cases hle : j ≤ D
    · obtain ⟨a, b⟩ := rdd_stays hg ow i hi j (D - j) (by omega)
      rw [show j + (D - j) = D by omega] at a b
      constructor
      · intro h
        rw [a h]
        rcases hbj.rdd i hi with h1 | h1 <;> omega
      · intro h
        by_cases hn : 0 ≤ rd (stAt n room ow ms j).rdd i
        · exact hn
        · rcases b (by omega) with h1 | h1 <;> omega
    · obtain ⟨a, b⟩ := rdd_stays hg ow i hi D (j - D) (by omega)
      rw [show D + (j - D) = j by omega] at a b
      rw [a hend]
      have := hbD.rdd i hi
      constructor <;> intro h <;> omega
end Ins
end Go.Proofs.Ytkfghiofmamdnaa.PA
