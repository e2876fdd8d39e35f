/- An insertion ring comes to its end: all cells are read in time; no condition but what each theorem names. -/
import Derived.Test.YtkfghiofmamdnaaInRun
import Derived.Test.YtkfghiofmamdnaaInOk
namespace Go.Proofs.Ytkfghiofmamdnaa.PA
open Go.RowKit Go.Proofs.YtkfghiofmamdnaaW.PrintWords Go.Proofs.YtkfghiofmamdnaaW.PrintLast Go.Proofs.YtkfghiofmamdnaaW.PrintMore
set_option linter.unusedVariables false
set_option linter.unusedSimpArgs false
namespace Ins
/-! sums -/
def sumN (f : Nat → Int) : Nat → Int
  | 0 => 0
  | j + 1 => sumN f j + f j
theorem sumN_congr {f g : Nat → Int} : ∀ n : Nat, (∀ i, i < n → f i = g i) → sumN f n = sumN g n
  | 0, _ => rfl
  | n + 1, h => by rw [sumN, sumN, sumN_congr n (fun i hi => h i (by omega)), h n (by omega)]
theorem sumN_change {f g : Nat → Int} (j : Nat) (h : ∀ i, i ≠ j → f i = g i) : ∀ n : Nat, j < n → sumN g n = sumN f n - f j + g j
  | 0, hj => by omega
  | n + 1, hj => by
    rw [sumN, sumN]
    by_cases e : j = n
    · subst e
      rw [sumN_congr (f := g) (g := f) j (fun i hi => (h i (by omega)).symm)]
      omega
    · rw [sumN_change j h n (by omega), h n (fun e' => e e'.symm)]
      omega
theorem sumN_nonneg {f : Nat → Int} : ∀ n : Nat, (∀ i, i < n → 0 ≤ f i) → 0 ≤ sumN f n
  | 0, _ => by simp [sumN]
  | n + 1, h => by
    rw [sumN]
    have := sumN_nonneg n (fun i hi => h i (by omega))
    have := h n (by omega)
    omega
theorem sumN_le {f : Nat → Int} {c : Int} : ∀ n : Nat, (∀ i, i < n → f i ≤ c) → sumN f n ≤ n * c
  | 0, _ => by simp [sumN]
  | n + 1, h => by
    rw [sumN]
    have h1 := sumN_le n (fun i hi => h i (by omega))
    have h2 := h n (by omega)
    have : ((n + 1 : Nat) : Int) * c = n * c + c := by rw [Int.natCast_add, Int.add_mul]; simp
    omega
theorem sumN_shift (f : Nat → Int) : ∀ n : Nat, sumN (fun i => f (i + 1)) n = sumN f (n + 1) - f 0
  | 0 => by simp [sumN]
  | n + 1 => by
    rw [sumN, sumN_shift f n, sumN, sumN, sumN]
    omega
def lsum (f : Int → Int) : List Int → Int
  | [] => 0
  | x :: l => f x + lsum f l
theorem lsum_snoc (f : Int → Int) (x : Int) : ∀ l : List Int, lsum f (l ++ [x]) = lsum f l + f x
  | [] => by simp [lsum]
  | y :: l => by
    rw [List.cons_append, lsum, lsum, lsum_snoc f x l]
    omega
theorem lsum_nonneg (f : Int → Int) : ∀ l : List Int, (∀ x ∈ l, 0 ≤ f x) → 0 ≤ lsum f l
  | [], _ => by simp [lsum]
  | y :: l, h => by
    rw [lsum]
    have h1 := h y (by simp)
    have h2 := lsum_nonneg f l (fun x hx => h x (by simp [hx]))
    omega
/-! rows -/
theorem rd_set' (l : List Int) (i s : Nat) (x : Int) (hi : i < l.length) : rd (l.set i x) (s : Int) = if s = i then x else rd l (s : Int) := by
  simp only [rd, Int.toNat_natCast, List.getD_eq_getElem?_getD, List.getElem?_set]
  by_cases h : s = i
  · rw [if_pos h, h, if_pos rfl, if_pos hi]
    rfl
  · rw [if_neg h, if_neg (fun e => h e.symm)]
theorem getD_set (l : List (List Int)) (i s : Nat) (x : List Int) (hi : i < l.length) : (l.set i x).getD s [] = if s = i then x else l.getD s [] := by
  simp only [List.getD_eq_getElem?_getD, List.getElem?_set]
  by_cases h : s = i
  · rw [if_pos h, h, if_pos rfl, if_pos hi]
    rfl
  · rw [if_neg h, if_neg (fun e => h e.symm)]
/-- How many links cell k goes from a station. -/
def phi (n : Nat) (ms : List S60) (own k : Int) : Int := ((rd_T60 ms k).f2 - own) % n
structure Good (n : Nat) (room : Int) (ms : List S60) : Prop where
  n2 : 2 ≤ n
  n12 : n ≤ 12
  M : ms.length ≤ 20
  room1 : 1 ≤ room
  m : ∀ i : Nat, i < ms.length → (0 ≤ (rd_T60 ms i).f0 ∧ (rd_T60 ms i).f0 ≤ 100) ∧ (0 ≤ (rd_T60 ms i).f1 ∧ (rd_T60 ms i).f1 < n) ∧ (0 ≤ (rd_T60 ms i).f2 ∧ (rd_T60 ms i).f2 < n) ∧ (rd_T60 ms i).f1 ≠ (rd_T60 ms i).f2
theorem good_of {n : Nat} {room : Int} {ms : List S60} (h : okI n room ms = true) : Good n room ms := by
  have hf := okI_facts h
  refine ⟨by omega, by omega, hf.2.2.1, hf.2.1.1, fun i hi => ?_⟩
  have := hf.2.2.2 i hi
  simp only [okMsg, inB, Bool.and_eq_true, decide_eq_true_eq, bne_iff_ne] at this
  obtain ⟨⟨⟨⟨h0, h1⟩, h2⟩, h3⟩, _⟩ := this
  exact ⟨h0, ⟨h1.1, by omega⟩, ⟨h2.1, by omega⟩, h3⟩
theorem phi_facts {n : Nat} {ms : List S60} {own k : Int} (n2 : 2 ≤ n) (n12 : n ≤ 12) (h0 : 0 ≤ own) (h1 : own < n) (k0 : 0 ≤ (rd_T60 ms k).f2) (k1 : (rd_T60 ms k).f2 < n) :
    0 ≤ phi n ms own k ∧ phi n ms own k ≤ 11 ∧ ((rd_T60 ms k).f2 = own → phi n ms own k = 0) ∧ ((rd_T60 ms k).f2 ≠ own → phi n ms ((own + 1) % n) k = phi n ms own k - 1) := by
  unfold phi
  generalize (rd_T60 ms k).f2 = y at *
  have hn : n = 2 ∨ n = 3 ∨ n = 4 ∨ n = 5 ∨ n = 6 ∨ n = 7 ∨ n = 8 ∨ n = 9 ∨ n = 10 ∨ n = 11 ∨ n = 12 := by omega
  rcases hn with rfl | rfl | rfl | rfl | rfl | rfl | rfl | rfl | rfl | rfl | rfl <;> omega
def uval (n : Nat) (ms : List S60) (st : St) (i : Nat) : Int := if rd st.ins i < 0 then phi n ms (rd_T60 ms i).f1 i else 0
def bval (n : Nat) (ms : List S60) (st : St) (s : Nat) : Int := lsum (phi n ms s) (st.buf.getD s [])
def lval (n : Nat) (ms : List S60) (st : St) (s : Nat) : Int := if rd st.links s ≤ 0 then 0 else phi n ms (((s : Int) + 1) % n) (rd st.links s - 1)
def lv (n : Nat) (ms : List S60) (st : St) (own : Nat) : Int := if inAt n st own ≤ 0 then 0 else phi n ms own (inAt n st own - 1)
/-- What is still to be done. -/
def Phi (n : Nat) (ms : List S60) (st : St) : Int := sumN (uval n ms st) ms.length + sumN (bval n ms st) n + sumN (lval n ms st) n
theorem wrapR {n s : Nat} (h : s < n) (n2 : 2 ≤ n) (n12 : n ≤ 12) : (((s : Int) + 1) % n + n - 1) % n = s ∧ 0 ≤ ((s : Int) + 1) % n ∧ ((s : Int) + 1) % n < n := by
  have hn : n = 2 ∨ n = 3 ∨ n = 4 ∨ n = 5 ∨ n = 6 ∨ n = 7 ∨ n = 8 ∨ n = 9 ∨ n = 10 ∨ n = 11 ∨ n = 12 := by omega
  rcases hn with rfl | rfl | rfl | rfl | rfl | rfl | rfl | rfl | rfl | rfl | rfl <;> omega
theorem inAt_zero {n : Nat} (st : St) (n2 : 2 ≤ n) : inAt n st ((0 : Nat) : Int) = rd st.links ((n - 1 : Nat) : Int) := by
  unfold inAt
  congr 1
  rw [Int.emod_eq_of_lt (by omega) (by omega)]
  omega
theorem inAt_succ {n i : Nat} (st : St) (hi : i + 1 < n) : inAt n st ((i + 1 : Nat) : Int) = rd st.links (i : Int) := by
  unfold inAt
  congr 1
  rw [show ((i + 1 : Nat) : Int) + n - 1 = (i : Int) + n by omega, Int.add_emod_right, Int.emod_eq_of_lt (by omega) (by omega)]
theorem lv_sum {n : Nat} (ms : List S60) (st : St) (n2 : 2 ≤ n) : sumN (lv n ms st) n = sumN (lval n ms st) n := by
  obtain ⟨m, rfl⟩ : ∃ m, n = m + 1 := ⟨n - 1, by omega⟩
  have h0 : lv (m + 1) ms st 0 = lval (m + 1) ms st m := by
    simp only [lv, lval]
    rw [inAt_zero st n2]
    simp only [Nat.add_sub_cancel]
    rw [show ((m : Int) + 1) % ((m + 1 : Nat) : Int) = ((0 : Nat) : Int) by rw [show ((m : Int) + 1) = ((m + 1 : Nat) : Int) by omega, Int.emod_self]; rfl]
  have h1 : sumN (fun i => lv (m + 1) ms st (i + 1)) m = sumN (lval (m + 1) ms st) m := sumN_congr m fun i hi => by
    simp only [lv, lval]
    rw [inAt_succ st (by omega), show ((i : Int) + 1) % ((m + 1 : Nat) : Int) = ((i + 1 : Nat) : Int) by rw [Int.emod_eq_of_lt (by omega) (by omega)]; omega]
  have h2 := sumN_shift (lv (m + 1) ms st) m
  have h3 : sumN (lval (m + 1) ms st) (m + 1) = sumN (lval (m + 1) ms st) m + lval (m + 1) ms st m := rfl
  omega
structure Inv (n : Nat) (ms : List S60) (K : Nat) (st : St) : Prop where
  wf : Wf n ms.length K st
  nb : ∀ s : Nat, s < n → ∀ k ∈ st.buf.getD s [], (rd_T60 ms k).f2 ≠ s
  ex : ∀ i : Nat, i < ms.length → 0 ≤ rd st.ins i → rd st.rdd i < 0 → (∃ s : Nat, s < n ∧ (i : Int) ∈ st.buf.getD s []) ∨ ∃ s : Nat, s < n ∧ rd st.links s = i + 1
  rng : ∀ i : Nat, i < ms.length → -1 ≤ rd st.ins i ∧ -1 ≤ rd st.rdd i
structure GInv (n : Nat) (ms : List S60) (K : Nat) (st g : St) (j : Nat) : Prop where
  wf : Wf n ms.length (K + j) g
  ins : g.ins = st.ins
  links : g.links = st.links
  nb : ∀ s : Nat, s < n → ∀ k ∈ g.buf.getD s [], (rd_T60 ms k).f2 ≠ s
  ex : ∀ i : Nat, i < ms.length → 0 ≤ rd st.ins i → rd g.rdd i < 0 → (∃ s : Nat, s < n ∧ (i : Int) ∈ g.buf.getD s []) ∨ ∃ own : Nat, j ≤ own ∧ own < n ∧ inAt n st own = i + 1
  rng : ∀ i : Nat, i < ms.length → -1 ≤ rd g.rdd i
  sum : sumN (bval n ms g) n = sumN (bval n ms st) n + sumN (lv n ms st) j
theorem gets_inv {n : Nat} {room : Int} {ms : List S60} {K : Nat} {st : St} (hg : Good n room ms) (hK : K + 12 ≤ 1000000) (t : Int) (ht : 0 ≤ t) (h : Inv n ms K st) : ∀ j : Nat, j ≤ n → GInv n ms K st (gets n t ms st j) j
  | 0, _ => by
    refine ⟨h.wf, rfl, rfl, h.nb, fun i hi h1 h2 => ?_, fun i hi => (h.rng i hi).2, by simp [sumN, gets]⟩
    rcases h.ex i hi h1 h2 with h3 | ⟨s, hs, h3⟩
    · exact .inl h3
    · obtain ⟨w1, w2, w3⟩ := wrapR hs hg.n2 hg.n12
      refine .inr ⟨(((s : Int) + 1) % n).toNat, by omega, by omega, ?_⟩
      rw [inAt, Int.toNat_of_nonneg w2, w1]
      exact h3
  | j + 1, hj => by
    have ih := gets_inv hg hK t ht h j (by omega)
    have hwf := ih.wf.get (by have := hg.n12; omega) t ms j (by omega) (by omega)
    have hinA : inAt n (gets n t ms st j) j = inAt n st j := by unfold inAt; rw [ih.links]
    have hin := ih.wf.in_ (j : Int) (by omega) (by omega)
    have hb := ih.wf.buf
    have hr := ih.wf.rdd
    rw [hinA] at hin
    show GInv n ms K st (get1 n t ms (gets n t ms st j) j) (j + 1)
    generalize gets n t ms st j = g at ih hwf hinA hb hr ⊢
    by_cases hx : inAt n st j - 1 < 0
    · have e : get1 n t ms g j = g := by unfold get1; rw [hinA, if_pos hx]
      rw [e] at hwf ⊢
      refine ⟨hwf, ih.ins, ih.links, ih.nb, fun i hi h1 h2 => ?_, ih.rng, ?_⟩
      · rcases ih.ex i hi h1 h2 with h3 | ⟨own, o1, o2, o3⟩
        · exact .inl h3
        · refine .inr ⟨own, ?_, o2, o3⟩
          by_cases hoj : own = j
          · subst hoj
            omega
          · omega
      · rw [ih.sum, sumN, show lv n ms st j = 0 from if_pos (by omega)]
        omega
    · obtain ⟨k, hk⟩ : ∃ k : Nat, inAt n st j = (k : Int) + 1 := ⟨(inAt n st j - 1).toNat, by omega⟩
      have hkM : k < ms.length := by omega
      have hm := hg.m k hkM
      have hlv : lv n ms st j = phi n ms j k := by
        unfold lv
        rw [if_neg (by omega), hk]
        congr 1
        omega
      have hph := phi_facts (own := (j : Int)) (k := (k : Int)) hg.n2 hg.n12 (by omega) (by omega) hm.2.2.1.1 hm.2.2.1.2
      by_cases hto : (rd_T60 ms (k : Int)).f2 = (j : Int)
      · have e : get1 n t ms g j = { g with rdd := g.rdd.set k t } := by
          unfold get1
          rw [hinA, if_neg hx, show inAt n st j - 1 = (k : Int) by omega, if_pos hto, Int.toNat_natCast]
        rw [e] at hwf ⊢
        refine ⟨hwf, ih.ins, ih.links, ih.nb, fun i hi h1 h2 => ?_, fun i hi => ?_, ?_⟩
        · have h2' : rd (g.rdd.set k t) (i : Int) < 0 := h2
          rw [rd_set' _ _ _ _ (by omega)] at h2'
          by_cases hik : i = k
          · rw [if_pos hik] at h2'
            omega
          · rw [if_neg hik] at h2'
            rcases ih.ex i hi h1 h2' with h3 | ⟨own, o1, o2, o3⟩
            · exact .inl h3
            · refine .inr ⟨own, ?_, o2, o3⟩
              by_cases hoj : own = j
              · subst hoj
                omega
              · omega
        · show -1 ≤ rd (g.rdd.set k t) (i : Int)
          rw [rd_set' _ _ _ _ (by omega)]
          have := ih.rng i hi
          split <;> omega
        · have e2 : sumN (bval n ms { g with rdd := g.rdd.set k t }) n = sumN (bval n ms g) n := rfl
          rw [e2, ih.sum, sumN, hlv, hph.2.2.1 hto]
          omega
      · have e : get1 n t ms g j = { g with buf := g.buf.set j (g.buf.getD j [] ++ [(k : Int)]) } := by
          unfold get1
          rw [hinA, if_neg hx, show inAt n st j - 1 = (k : Int) by omega, if_neg hto, Int.toNat_natCast]
        rw [e] at hwf ⊢
        have hgd : ∀ s : Nat, (g.buf.set j (g.buf.getD j [] ++ [(k : Int)])).getD s [] = if s = j then g.buf.getD j [] ++ [(k : Int)] else g.buf.getD s [] := fun s => getD_set _ _ _ _ (by omega)
        refine ⟨hwf, ih.ins, ih.links, fun s hs q hq => ?_, fun i hi h1 h2 => ?_, ih.rng, ?_⟩
        · simp only [hgd] at hq
          by_cases hsj : s = j
          · rw [if_pos hsj] at hq
            rcases List.mem_append.1 hq with hq | hq
            · rw [hsj]
              exact ih.nb j (by omega) q hq
            · rw [List.mem_singleton.1 hq, hsj]
              exact hto
          · rw [if_neg hsj] at hq
            exact ih.nb s hs q hq
        · rcases ih.ex i hi h1 h2 with ⟨s, hs, h3⟩ | ⟨own, o1, o2, o3⟩
          · refine .inl ⟨s, hs, ?_⟩
            simp only [hgd]
            by_cases hsj : s = j
            · rw [if_pos hsj]
              exact List.mem_append_left _ (hsj ▸ h3)
            · rw [if_neg hsj]
              exact h3
          · by_cases hoj : own = j
            · subst hoj
              refine .inl ⟨own, o2, ?_⟩
              simp only [hgd]
              rw [if_pos trivial]
              exact List.mem_append_right _ (by rw [List.mem_singleton]; omega)
            · exact .inr ⟨own, by omega, o2, o3⟩
        · have h3 := sumN_change (f := bval n ms g) (g := bval n ms { g with buf := g.buf.set j (g.buf.getD j [] ++ [(k : Int)]) }) j (fun i hi => by simp only [bval, hgd]; rw [if_neg hi]) n (by omega)
          rw [h3, ih.sum, sumN, hlv]
          have h4 : bval n ms { g with buf := g.buf.set j (g.buf.getD j [] ++ [(k : Int)]) } j = bval n ms g j + phi n ms j k := by
            simp only [bval, hgd]
            rw [if_pos trivial, lsum_snoc]
          omega
structure SInv (n : Nat) (ms : List S60) (K : Nat) (t : Int) (g s : St) (j : Nat) : Prop where
  wf : Wf n ms.length (K + j) s
  rdd : s.rdd = g.rdd
  nb : ∀ q : Nat, q < n → ∀ k ∈ s.buf.getD q [], (rd_T60 ms k).f2 ≠ q
  ex : ∀ i : Nat, i < ms.length → 0 ≤ rd s.ins i → rd s.rdd i < 0 → (∃ q : Nat, q < n ∧ (i : Int) ∈ s.buf.getD q []) ∨ ∃ q : Nat, q < j ∧ rd s.links q = i + 1
  rng : ∀ i : Nat, i < ms.length → -1 ≤ rd s.ins i
  le : sumN (uval n ms s) ms.length + sumN (bval n ms s) n + sumN (lval n ms s) j ≤ sumN (uval n ms g) ms.length + sumN (bval n ms g) n
  idle : sumN (uval n ms s) ms.length + sumN (bval n ms s) n + sumN (lval n ms s) j = sumN (uval n ms g) ms.length + sumN (bval n ms g) n →
    (∀ q : Nat, q < j → s.buf.getD q [] = [] ∧ rd s.links q = 0) ∧ ∀ i : Nat, i < ms.length → (rd_T60 ms i).f0 ≤ t → (∃ q : Nat, q < j ∧ (rd_T60 ms i).f1 = q) → 0 ≤ rd s.ins i
theorem ownL_none (s t : Int) (ins : List Int) : ∀ (ms : List S60) (i : Nat), ownL s t ins ms i = -1 → ∀ q : Nat, q < ms.length → (rd_T60 ms q).f1 = s → (rd_T60 ms q).f0 ≤ t → 0 ≤ rd ins ((i + q : Nat) : Int)
  | [], i, _, q, hq, _, _ => by simp at hq
  | m :: ms, i, h, q, hq, h1, h2 => by
    rw [ownL] at h
    split at h
    · omega
    · rename_i hn
      cases q with
      | zero =>
        have e : rd_T60 (m :: ms) ((0 : Nat) : Int) = m := rfl
        rw [e] at h1 h2
        have h3 : ¬ rd ins (i : Int) < 0 := fun h3 => hn ⟨h1, h2, h3⟩
        simpa using h3
      | succ q =>
        have e : rd_T60 (m :: ms) ((q + 1 : Nat) : Int) = rd_T60 ms (q : Int) := by simp [rd_T60]
        rw [e] at h1 h2
        have := ownL_none s t ins ms (i + 1) h q (by simpa using hq) h1 h2
        rw [show i + (q + 1) = i + 1 + q by omega]
        exact this
theorem ownL_some (s t : Int) (ins : List Int) : ∀ (ms : List S60) (i k : Nat), ownL s t ins ms i = (k : Int) → ∃ q : Nat, q < ms.length ∧ k = i + q ∧ (rd_T60 ms q).f1 = s ∧ (rd_T60 ms q).f0 ≤ t ∧ rd ins (k : Int) < 0
  | [], i, k, h => by rw [ownL] at h; omega
  | m :: ms, i, k, h => by
    rw [ownL] at h
    split at h
    · rename_i hn
      obtain rfl : i = k := by omega
      exact ⟨0, by simp, by omega, hn.1, hn.2.1, hn.2.2⟩
    · obtain ⟨q, h1, h2, h3, h4, h5⟩ := ownL_some s t ins ms (i + 1) k h
      refine ⟨q + 1, by simp; omega, by omega, ?_, ?_, h5⟩
      · rw [show rd_T60 (m :: ms) ((q + 1 : Nat) : Int) = rd_T60 ms (q : Int) by simp [rd_T60]]; exact h3
      · rw [show rd_T60 (m :: ms) ((q + 1 : Nat) : Int) = rd_T60 ms (q : Int) by simp [rd_T60]]; exact h4
theorem sOwn {room : Int} {ow : Bool} {t : Int} {ms : List S60} {s : St} {j k : Nat} (hO : ownB room ow t ms s j = true) (hk : ownC t ms s j = (k : Int)) :
    (send1 room ow t ms s j).buf = s.buf ∧ (send1 room ow t ms s j).links = s.links.set j ((k : Int) + 1) ∧ (send1 room ow t ms s j).ins = s.ins.set k t ∧ (send1 room ow t ms s j).rdd = s.rdd := by
  simp only [send1, sent, sendS, hO, if_true, hk, Int.toNat_natCast, and_self]
theorem sPop {room : Int} {ow : Bool} {t : Int} {ms : List S60} {s : St} {j : Nat} {x : Int} {tl : List Int} (hO : ownB room ow t ms s j = false) (hb : s.buf.getD j [] = x :: tl) :
    (send1 room ow t ms s j).buf = s.buf.set j tl ∧ (send1 room ow t ms s j).links = s.links.set j (x + 1) ∧ (send1 room ow t ms s j).ins = s.ins ∧ (send1 room ow t ms s j).rdd = s.rdd := by
  simp only [send1, sent, sendS, hO, Bool.false_eq_true, if_false, Int.toNat_natCast, hb, List.tail_cons, and_self]
theorem sIdle {room : Int} {ow : Bool} {t : Int} {ms : List S60} {s : St} {j : Nat} (hO : ownB room ow t ms s j = false) (hb : s.buf.getD j [] = []) (hj : j < s.buf.length) :
    (send1 room ow t ms s j).buf = s.buf ∧ (send1 room ow t ms s j).links = s.links.set j 0 ∧ (send1 room ow t ms s j).ins = s.ins ∧ (send1 room ow t ms s j).rdd = s.rdd := by
  have e : s.buf.set j [] = s.buf := by
    have : s.buf[j] = [] := by simpa [List.getD_eq_getElem?_getD, List.getElem?_eq_getElem hj] using hb
    rw [← this, List.set_getElem_self]
  simp only [send1, sent, sendS, hO, Bool.false_eq_true, if_false, Int.toNat_natCast, hb, List.tail_nil, e, and_self]
theorem sends_inv {n : Nat} {room : Int} {ms : List S60} {K : Nat} {g : St} (hg : Good n room ms) (hK : K + 12 ≤ 1000000) (ow : Bool) (t : Int) (ht : 0 ≤ t) (hw : Wf n ms.length K g)
    (hnb : ∀ q : Nat, q < n → ∀ k ∈ g.buf.getD q [], (rd_T60 ms k).f2 ≠ q) (hex : ∀ i : Nat, i < ms.length → 0 ≤ rd g.ins i → rd g.rdd i < 0 → ∃ q : Nat, q < n ∧ (i : Int) ∈ g.buf.getD q []) (hrg : ∀ i : Nat, i < ms.length → -1 ≤ rd g.ins i) :
    ∀ j : Nat, j ≤ n → SInv n ms K t g (sends room ow t ms g j) j
  | 0, _ => ⟨hw, rfl, hnb, fun i hi h1 h2 => .inl (hex i hi h1 h2), hrg, by simp [sumN, sends], fun _ => ⟨fun q hq => by omega, fun i _ _ ⟨q, hq, _⟩ => by omega⟩⟩
  | j + 1, hj => by
    have ih := sends_inv hg hK ow t ht hw hnb hex hrg j (by omega)
    have hwf := ih.wf.send (by have := hg.n12; omega) room ow t j
    have hb := ih.wf.buf
    have hl := ih.wf.links
    have hi0 := ih.wf.ins
    have hrow := ih.wf.row j
    show SInv n ms K t g (send1 room ow t ms (sends room ow t ms g j) j) (j + 1)
    generalize sends room ow t ms g j = s at ih hwf hb hl hi0 hrow ⊢
    have hcr := ownC_range t ms s j
    by_cases hO : ownB room ow t ms s j = true
    · have hc0 : 0 ≤ ownC t ms s j := by simp only [ownB, Bool.and_eq_true, decide_eq_true_eq] at hO; exact hO.1
      obtain ⟨k, hk⟩ : ∃ k : Nat, ownC t ms s j = (k : Int) := ⟨(ownC t ms s j).toNat, by omega⟩
      obtain ⟨q, q1, q2, q3, q4, q5⟩ := ownL_some j t s.ins ms 0 k hk
      obtain rfl : k = q := by omega
      obtain ⟨e1, e2, e3, e4⟩ := sOwn hO hk
      have hm := hg.m k q1
      have hph := phi_facts (own := (j : Int)) (k := (k : Int)) hg.n2 hg.n12 (by omega) (by omega) hm.2.2.1.1 hm.2.2.1.2
      have hlk : ∀ q : Nat, rd (s.links.set j ((k : Int) + 1)) (q : Int) = if q = j then (k : Int) + 1 else rd s.links q := fun q => rd_set' _ _ _ _ (by omega)
      have hik : ∀ q : Nat, rd (s.ins.set k t) (q : Int) = if q = k then t else rd s.ins q := fun q => rd_set' _ _ _ _ (by omega)
      have hT : sumN (uval n ms (send1 room ow t ms s j)) ms.length + sumN (bval n ms (send1 room ow t ms s j)) n + sumN (lval n ms (send1 room ow t ms s j)) (j + 1) = sumN (uval n ms s) ms.length + sumN (bval n ms s) n + sumN (lval n ms s) j - 1 := by
        have u1 := sumN_change (f := uval n ms s) (g := uval n ms (send1 room ow t ms s j)) k (fun i hi => by simp only [uval, e3, hik]; rw [if_neg hi]) ms.length q1
        have u2 : uval n ms s k = phi n ms j k := by simp only [uval]; rw [if_pos q5, q3]
        have u3 : uval n ms (send1 room ow t ms s j) k = 0 := by simp only [uval, e3, hik]; rw [if_pos trivial, if_neg (by omega)]
        have b1 : sumN (bval n ms (send1 room ow t ms s j)) n = sumN (bval n ms s) n := sumN_congr n fun i _ => by simp only [bval, e1]
        have l1 : sumN (lval n ms (send1 room ow t ms s j)) j = sumN (lval n ms s) j := sumN_congr j fun i hi => by simp only [lval, e2, hlk, if_neg (show ¬ i = j by omega)]
        have l2 : lval n ms (send1 room ow t ms s j) j = phi n ms j k - 1 := by
          simp only [lval, e2, hlk]
          rw [if_pos trivial, if_neg (by omega), show (k : Int) + 1 - 1 = k by omega]
          exact hph.2.2.2 (by rw [← q3]; exact fun e => hm.2.2.2 e.symm)
        rw [sumN, u1, u2, u3, b1, l1, l2]
        omega
      refine ⟨hwf, e4.trans ih.rdd, by rw [e1]; exact ih.nb, fun i hi h1 h2 => ?_, fun i hi => ?_, by have := ih.le; omega, fun h => by have := ih.le; omega⟩
      · rw [e3, hik] at h1
        rw [e4] at h2
        rw [e1, e2]
        by_cases hiK : i = k
        · exact .inr ⟨j, by omega, by rw [hlk, if_pos rfl, hiK]⟩
        · rw [if_neg hiK] at h1
          rcases ih.ex i hi h1 h2 with h3 | ⟨q, hq, h3⟩
          · exact .inl h3
          · exact .inr ⟨q, by omega, by rw [hlk, if_neg (by omega)]; exact h3⟩
      · rw [e3, hik]
        have := ih.rng i hi
        split <;> omega
    · rw [Bool.not_eq_true] at hO
      cases hbo : s.buf.getD j [] with
      | cons x tl =>
        obtain ⟨e1, e2, e3, e4⟩ := sPop hO hbo
        have hx := hrow.2 x (by rw [hbo]; simp)
        obtain ⟨k, rfl⟩ : ∃ k : Nat, x = (k : Int) := ⟨x.toNat, by omega⟩
        have hm := hg.m k (by omega)
        have hnj := ih.nb j (by omega) (k : Int) (by rw [hbo]; simp)
        have hph := phi_facts (own := (j : Int)) (k := (k : Int)) hg.n2 hg.n12 (by omega) (by omega) hm.2.2.1.1 hm.2.2.1.2
        have hlk : ∀ q : Nat, rd (s.links.set j ((k : Int) + 1)) (q : Int) = if q = j then (k : Int) + 1 else rd s.links q := fun q => rd_set' _ _ _ _ (by omega)
        have hgd : ∀ q : Nat, (s.buf.set j tl).getD q [] = if q = j then tl else s.buf.getD q [] := fun q => getD_set _ _ _ _ (by omega)
        have hT : sumN (uval n ms (send1 room ow t ms s j)) ms.length + sumN (bval n ms (send1 room ow t ms s j)) n + sumN (lval n ms (send1 room ow t ms s j)) (j + 1) = sumN (uval n ms s) ms.length + sumN (bval n ms s) n + sumN (lval n ms s) j - 1 := by
          have u1 : sumN (uval n ms (send1 room ow t ms s j)) ms.length = sumN (uval n ms s) ms.length := sumN_congr _ fun i _ => by simp only [uval, e3]
          have b1 := sumN_change (f := bval n ms s) (g := bval n ms (send1 room ow t ms s j)) j (fun i hi => by simp only [bval, e1, hgd]; rw [if_neg hi]) n (by omega)
          have b2 : bval n ms s j = phi n ms j k + lsum (phi n ms j) tl := by simp only [bval, hbo, lsum]
          have b3 : bval n ms (send1 room ow t ms s j) j = lsum (phi n ms j) tl := by simp only [bval, e1, hgd]; rw [if_pos trivial]
          have l1 : sumN (lval n ms (send1 room ow t ms s j)) j = sumN (lval n ms s) j := sumN_congr j fun i hi => by simp only [lval, e2, hlk, if_neg (show ¬ i = j by omega)]
          have l2 : lval n ms (send1 room ow t ms s j) j = phi n ms j k - 1 := by
            simp only [lval, e2, hlk]
            rw [if_pos trivial, if_neg (by omega), show (k : Int) + 1 - 1 = k by omega]
            exact hph.2.2.2 hnj
          rw [sumN, u1, b1, b2, b3, l1, l2]
          omega
        refine ⟨hwf, e4.trans ih.rdd, fun q hq y hy => ?_, fun i hi h1 h2 => ?_, fun i hi => by rw [e3]; exact ih.rng i hi, by have := ih.le; omega, fun h => by have := ih.le; omega⟩
        · rw [e1, hgd] at hy
          by_cases hqj : q = j
          · rw [if_pos hqj] at hy
            rw [hqj]
            exact ih.nb j (by omega) y (by rw [hbo]; exact List.mem_cons_of_mem _ hy)
          · rw [if_neg hqj] at hy
            exact ih.nb q hq y hy
        · rw [e3] at h1
          rw [e4] at h2
          rw [e1, e2]
          rcases ih.ex i hi h1 h2 with ⟨q, hq, h3⟩ | ⟨q, hq, h3⟩
          · by_cases hqj : q = j
            · rw [hqj, hbo] at h3
              rcases List.mem_cons.1 h3 with h3 | h3
              · exact .inr ⟨j, by omega, by rw [hlk, if_pos rfl]; omega⟩
              · exact .inl ⟨j, by omega, by rw [hgd, if_pos rfl]; exact h3⟩
            · exact .inl ⟨q, hq, by rw [hgd, if_neg hqj]; exact h3⟩
          · exact .inr ⟨q, by omega, by rw [hlk, if_neg (by omega)]; exact h3⟩
      | nil =>
        obtain ⟨e1, e2, e3, e4⟩ := sIdle hO hbo (by omega)
        have hlk : ∀ q : Nat, rd (s.links.set j 0) (q : Int) = if q = j then 0 else rd s.links q := fun q => rd_set' _ _ _ _ (by omega)
        have hT : sumN (uval n ms (send1 room ow t ms s j)) ms.length + sumN (bval n ms (send1 room ow t ms s j)) n + sumN (lval n ms (send1 room ow t ms s j)) (j + 1) = sumN (uval n ms s) ms.length + sumN (bval n ms s) n + sumN (lval n ms s) j := by
          have u1 : sumN (uval n ms (send1 room ow t ms s j)) ms.length = sumN (uval n ms s) ms.length := sumN_congr _ fun i _ => by simp only [uval, e3]
          have b1 : sumN (bval n ms (send1 room ow t ms s j)) n = sumN (bval n ms s) n := sumN_congr n fun i _ => by simp only [bval, e1]
          have l1 : sumN (lval n ms (send1 room ow t ms s j)) j = sumN (lval n ms s) j := sumN_congr j fun i hi => by simp only [lval, e2, hlk, if_neg (show ¬ i = j by omega)]
          have l2 : lval n ms (send1 room ow t ms s j) j = 0 := by
            simp only [lval, e2, hlk]
            rw [if_pos trivial, if_pos (by omega)]
          rw [sumN, u1, b1, l1, l2]
          omega
        have hc : ownC t ms s j = -1 := by
          rcases hcr with hc | hc
          · exact hc
          · exfalso
            have hr1 := hg.room1
            have : ownB room ow t ms s j = true := by
              simp only [ownB, Int.toNat_natCast, hbo, Bool.and_eq_true, decide_eq_true_eq]
              refine ⟨hc.1, ?_⟩
              cases ow <;> simp
              omega
            rw [this] at hO
            cases hO
        refine ⟨hwf, e4.trans ih.rdd, by rw [e1]; exact ih.nb, fun i hi h1 h2 => ?_, fun i hi => by rw [e3]; exact ih.rng i hi, by have := ih.le; omega, fun h => ?_⟩
        · rw [e3] at h1
          rw [e4] at h2
          rw [e1, e2]
          rcases ih.ex i hi h1 h2 with h3 | ⟨q, hq, h3⟩
          · exact .inl h3
          · exact .inr ⟨q, by omega, by rw [hlk, if_neg (by omega)]; exact h3⟩
        · obtain ⟨i1, i2⟩ := ih.idle (by omega)
          refine ⟨fun q hq => ?_, fun i hi hti ⟨q, hq, hf⟩ => ?_⟩
          · rw [e1, e2, hlk]
            by_cases hqj : q = j
            · rw [if_pos hqj, hqj]
              exact ⟨hbo, rfl⟩
            · rw [if_neg hqj]
              exact i1 q (by omega)
          · rw [e3]
            by_cases hqj : q = j
            · have := ownL_none j t s.ins ms 0 hc i hi (by rw [hf, hqj]) hti
              simpa using this
            · exact i2 i hi hti ⟨q, by omega, hf⟩
theorem tick_inv {n : Nat} {room : Int} {ms : List S60} {K : Nat} {st : St} (hg : Good n room ms) (hK : K + 24 ≤ 1000000) (ow : Bool) (t : Int) (ht : 0 ≤ t) (h : Inv n ms K st) :
    Inv n ms (K + 24) (tick1 n room ow t ms st) ∧ Phi n ms (tick1 n room ow t ms st) ≤ Phi n ms st ∧
    (Phi n ms (tick1 n room ow t ms st) = Phi n ms st → 100 ≤ t → ∀ i : Nat, i < ms.length → 0 ≤ rd (tick1 n room ow t ms st).rdd i) := by
  have hn12 := hg.n12
  have G := gets_inv hg (by omega) t ht h n (Nat.le_refl _)
  have e : tick1 n room ow t ms st = sends room ow t ms (gets n t ms st n) n := by rw [tick1, Int.toNat_natCast]
  rw [e]
  generalize gets n t ms st n = g at G
  have hexG : ∀ i : Nat, i < ms.length → 0 ≤ rd g.ins i → rd g.rdd i < 0 → ∃ q : Nat, q < n ∧ (i : Int) ∈ g.buf.getD q [] := fun i hi h1 h2 => by
    rw [G.ins] at h1
    rcases G.ex i hi h1 h2 with h3 | ⟨own, o1, o2, _⟩
    · exact h3
    · omega
  have S := sends_inv hg (K := K + n) (by omega) ow t ht G.wf G.nb hexG (fun i hi => by rw [G.ins]; exact (h.rng i hi).1) n (Nat.le_refl _)
  generalize sends room ow t ms g n = s at S
  have hU : sumN (uval n ms g) ms.length = sumN (uval n ms st) ms.length := sumN_congr _ fun i _ => by simp only [uval, G.ins]
  have hP : sumN (uval n ms g) ms.length + sumN (bval n ms g) n = Phi n ms st := by
    rw [Phi, hU, G.sum, lv_sum ms st hg.n2]
    omega
  have hPs : Phi n ms s = sumN (uval n ms s) ms.length + sumN (bval n ms s) n + sumN (lval n ms s) n := rfl
  refine ⟨⟨S.wf.up (by omega) hK, S.nb, S.ex, fun i hi => ⟨S.rng i hi, by rw [S.rdd]; exact G.rng i hi⟩⟩, by have := S.le; omega, fun heq h100 i hi => ?_⟩
  obtain ⟨i1, i2⟩ := S.idle (by omega)
  have hm := hg.m i hi
  have hins := i2 i hi (by omega) ⟨(rd_T60 ms i).f1.toNat, by omega, by omega⟩
  by_cases hr : 0 ≤ rd s.rdd i
  · exact hr
  · exfalso
    rcases S.ex i hi hins (by omega) with ⟨q, hq, h3⟩ | ⟨q, hq, h3⟩
    · rw [(i1 q hq).1] at h3
      simp at h3
    · rw [(i1 q hq).2] at h3
      omega
theorem Phi_nonneg {n : Nat} {room : Int} {ms : List S60} {K : Nat} {st : St} (hg : Good n room ms) (h : Inv n ms K st) : 0 ≤ Phi n ms st := by
  have h1 : 0 ≤ sumN (uval n ms st) ms.length := sumN_nonneg _ fun i hi => by
    simp only [uval]
    have hm := hg.m i hi
    have := phi_facts (own := (rd_T60 ms i).f1) (k := (i : Int)) hg.n2 hg.n12 hm.2.1.1 hm.2.1.2 hm.2.2.1.1 hm.2.2.1.2
    split <;> omega
  have hph : ∀ (s : Int) (x : Int), 0 ≤ s → s < n → 0 ≤ x → x < ms.length → 0 ≤ phi n ms s x := fun s x s0 s1 x0 x1 => by
    obtain ⟨k, rfl⟩ : ∃ k : Nat, x = (k : Int) := ⟨x.toNat, by omega⟩
    have hm := hg.m k (by omega)
    exact (phi_facts (own := s) (k := (k : Int)) hg.n2 hg.n12 s0 s1 hm.2.2.1.1 hm.2.2.1.2).1
  have h2 : 0 ≤ sumN (bval n ms st) n := sumN_nonneg _ fun s hs => lsum_nonneg _ _ fun x hx => by
    have := (h.wf.row s).2 x hx
    exact hph s x (by omega) (by omega) this.1 this.2
  have h3 : 0 ≤ sumN (lval n ms st) n := sumN_nonneg _ fun s hs => by
    simp only [lval]
    split
    · omega
    · rename_i hne
      have hl := h.wf.links
      have hlt : s < st.links.length := by omega
      have hv := h.wf.lk (rd st.links s) (by simp only [rd, Int.toNat_natCast, List.getD_eq_getElem?_getD, List.getElem?_eq_getElem hlt, Option.getD_some]; exact List.getElem_mem hlt)
      obtain ⟨_, w2, w3⟩ := wrapR hs hg.n2 hg.n12
      exact hph _ _ w2 w3 (by omega) (by omega)
  rw [Phi]
  omega
theorem rd_rep' (N S : Nat) (v : Int) (h : S < N) : rd (List.replicate N v) (S : Int) = v := by
  simp only [rd, Int.toNat_natCast, List.getD_eq_getElem?_getD, List.getElem?_replicate, if_pos h, Option.getD_some]
theorem getD_rep (N S : Nat) : (List.replicate N ([] : List Int)).getD S [] = [] := by
  simp only [List.getD_eq_getElem?_getD, List.getElem?_replicate]
  split <;> rfl
theorem st0_inv {n : Nat} {room : Int} {ms : List S60} (hg : Good n room ms) : Inv n ms 0 (st0 n ms.length) ∧ Phi n ms (st0 n ms.length) ≤ 220 := by
  refine ⟨⟨st0_wf n ms.length hg.n2 hg.n12 hg.M, fun s hs k hk => ?_, fun i hi h1 h2 => ?_, fun i hi => ?_⟩, ?_⟩
  · simp only [st0, getD_rep] at hk
    simp at hk
  · have : rd (st0 n ms.length).ins i = -1 := rd_rep' _ _ _ hi
    omega
  · have e1 : rd (st0 n ms.length).ins i = -1 := rd_rep' _ _ _ hi
    have e2 : rd (st0 n ms.length).rdd i = -1 := rd_rep' _ _ _ hi
    omega
  · have h1 : sumN (uval n ms (st0 n ms.length)) ms.length ≤ ms.length * 11 := sumN_le _ fun i hi => by
      simp only [uval]
      have hm := hg.m i hi
      have := phi_facts (own := (rd_T60 ms i).f1) (k := (i : Int)) hg.n2 hg.n12 hm.2.1.1 hm.2.1.2 hm.2.2.1.1 hm.2.2.1.2
      split <;> omega
    have h2 : sumN (bval n ms (st0 n ms.length)) n ≤ n * 0 := sumN_le _ fun s hs => by
      simp only [bval, st0, getD_rep, lsum]
      omega
    have h3 : sumN (lval n ms (st0 n ms.length)) n ≤ n * 0 := sumN_le _ fun s hs => by
      have e : rd (st0 n ms.length).links s = 0 := rd_rep' _ _ _ hs
      simp only [lval, e]
      simp
    have := hg.M
    rw [Phi]
    omega
theorem stAt_inv {n : Nat} {room : Int} {ms : List S60} (hg : Good n room ms) (ow : Bool) : ∀ j : Nat, j ≤ 10000 → Inv n ms (24 * j) (stAt n room ow ms j) ∧ Phi n ms (stAt n room ow ms j) ≤ 220
  | 0, _ => st0_inv hg
  | j + 1, hj => by
    have ih := stAt_inv hg ow j (by omega)
    have h := tick_inv hg (by omega) ow (j : Int) (by omega) ih.1
    exact ⟨by have := h.1; rwa [show 24 * j + 24 = 24 * (j + 1) by omega] at this, by have := h.2.1; have := ih.2; show Phi n ms (tick1 n room ow j ms (stAt n room ow ms j)) ≤ 220; omega⟩
theorem ends {n : Nat} {room : Int} {ms : List S60} (hg : Good n room ms) (ow : Bool) : ∀ d j : Nat, 100 ≤ j → j + d ≤ 9000 → Phi n ms (stAt n room ow ms j) ≤ d → ∃ D, D ≤ j + d + 1 ∧ ∀ i : Nat, i < ms.length → 0 ≤ rd (stAt n room ow ms D).rdd i := by
  intro d
  induction d with
  | zero =>
    intro j h100 hj hp
    have hi := stAt_inv hg ow j (by omega)
    have h := tick_inv hg (by omega) ow (j : Int) (by omega) hi.1
    have h0 := Phi_nonneg hg h.1
    exact ⟨j + 1, by omega, h.2.2 (by have := h.2.1; omega) (by omega)⟩
  | succ d ih =>
    intro j h100 hj hp
    have hi := stAt_inv hg ow j (by omega)
    have h := tick_inv hg (by omega) ow (j : Int) (by omega) hi.1
    by_cases he : Phi n ms (tick1 n room ow j ms (stAt n room ow ms j)) = Phi n ms (stAt n room ow ms j)
    · exact ⟨j + 1, by omega, h.2.2 he (by omega)⟩
    · obtain ⟨D, hD, hd⟩ := ih (j + 1) (by omega) (by omega) (by have := h.2.1; show Phi n ms (tick1 n room ow j ms (stAt n room ow ms j)) ≤ d; omega)
      exact ⟨D, by omega, hd⟩
def searchD (n : Nat) (room : Int) (ow : Bool) (ms : List S60) : Nat → Nat → Nat
  | 0, j => j
  | f + 1, j => if -1 ∈ (stAt n room ow ms j).rdd then searchD n room ow ms f (j + 1) else j
/-- How many ticks it takes. -/
def doneN (n : Nat) (room : Int) (ow : Bool) (ms : List S60) : Nat := searchD n room ow ms 400 0
theorem search_done (n : Nat) (room : Int) (ow : Bool) (ms : List S60) : ∀ (f j D : Nat), j ≤ D → D < j + f → ¬ -1 ∈ (stAt n room ow ms D).rdd → ¬ -1 ∈ (stAt n room ow ms (searchD n room ow ms f j)).rdd ∧ searchD n room ow ms f j ≤ D ∧ j ≤ searchD n room ow ms f j ∧ ∀ i, j ≤ i → i < searchD n room ow ms f j → -1 ∈ (stAt n room ow ms i).rdd
  | 0, j, D, h1, h2, h3 => by omega
  | f + 1, j, D, h1, h2, h3 => by
    rw [searchD]
    by_cases hj : -1 ∈ (stAt n room ow ms j).rdd
    · rw [if_pos hj]
      have hjD : j ≠ D := fun e => h3 (e ▸ hj)
      obtain ⟨a, b, c, d⟩ := search_done n room ow ms f (j + 1) D (by omega) (by omega) h3
      refine ⟨a, b, by omega, fun i hi hlt => ?_⟩
      by_cases e : i = j
      · exact e ▸ hj
      · exact d i (by omega) hlt
    · rw [if_neg hj]
      exact ⟨hj, h1, by omega, fun i hi hlt => by omega⟩
theorem done_facts {n : Nat} {room : Int} {ms : List S60} (hg : Good n room ms) (ow : Bool) : doneN n room ow ms ≤ 321 ∧ ¬ -1 ∈ (stAt n room ow ms (doneN n room ow ms)).rdd ∧ ∀ j, j < doneN n room ow ms → -1 ∈ (stAt n room ow ms j).rdd := by
  obtain ⟨D, hD, hd⟩ := ends hg ow 220 100 (by omega) (by omega) (stAt_inv hg ow 100 (by omega)).2
  have hno : ¬ -1 ∈ (stAt n room ow ms D).rdd := fun hm => by
    obtain ⟨i, hi, he⟩ := List.getElem_of_mem hm
    have hw := (stAt_inv hg ow D (by omega)).1.wf.rdd
    have := hd i (by omega)
    simp only [rd, Int.toNat_natCast, List.getD_eq_getElem?_getD, List.getElem?_eq_getElem hi, Option.getD_some, he] at this
    omega
  obtain ⟨a, b, _, d⟩ := search_done n room ow ms 400 0 D (by omega) (by omega) hno
  exact ⟨by unfold doneN; omega, a, fun j hj => d j (by omega) hj⟩
theorem rdd_range {n : Nat} {room : Int} {ms : List S60} (hg : Good n room ms) (ow : Bool) (j : Nat) (hj : j ≤ 9000) : ∀ x ∈ (stAt n room ow ms j).rdd, -1 ≤ x := fun x hx => by
  obtain ⟨i, hi, he⟩ := List.getElem_of_mem hx
  have h := (stAt_inv hg ow j (by omega)).1
  have hw := h.wf.rdd
  have := (h.rng i (by omega)).2
  simp only [rd, Int.toNat_natCast, List.getD_eq_getElem?_getD, List.getElem?_eq_getElem hi, Option.getD_some, he] at this
  exact this
end Ins
end Go.Proofs.Ytkfghiofmamdnaa.PA
