/- A tick of an insertion ring, station by station; cells are in one place each, and what has been told stays; no condition but what each theorem names. -/
import Derived.Test.YtkfghiofmamdnaaInLive
namespace Go.Proofs.Ytkfghiofmamdnaa.PA
open Go.RowKit Go.Proofs.YtkfghiofmamdnaaW.PrintWords Go.Proofs.YtkfghiofmamdnaaW.PrintLast Go.Proofs.YtkfghiofmamdnaaW.PrintMore
set_option linter.unusedVariables false
set_option linter.unusedSimpArgs false
namespace Ins
/-- The cell that comes to a station and goes on: none or one. -/
def arr (n : Nat) (ms : List S60) (st : St) (s : Nat) : List Int :=
  if inAt n st s - 1 < 0 then [] else if (rd_T60 ms (inAt n st s - 1)).f2 = s then [] else [inAt n st s - 1]
/-- The buffer of a station when all have got their cells. -/
def mid (n : Nat) (ms : List S60) (st : St) (s : Nat) : List Int := st.buf.getD s [] ++ arr n ms st s
/-- Is a cell read at this tick? -/
def rdNow (n : Nat) (ms : List S60) (st : St) (i : Nat) : Prop := inAt n st (rd_T60 ms i).f2 = i + 1
instance (n : Nat) (ms : List S60) (st : St) (i : Nat) : Decidable (rdNow n ms st i) := by unfold rdNow; infer_instance
structure GPt (n : Nat) (t : Int) (ms : List S60) (st g : St) (j : Nat) : Prop where
  links : g.links = st.links
  ins : g.ins = st.ins
  peak : g.peak = st.peak
  lb : g.buf.length = st.buf.length
  lr : g.rdd.length = st.rdd.length
  buf : ∀ s : Nat, g.buf.getD s [] = if s < j then mid n ms st s else st.buf.getD s []
  rdd : ∀ i : Nat, i < ms.length → rd g.rdd i = if (rd_T60 ms i).f2 < j ∧ rdNow n ms st i then t else rd st.rdd i
theorem gets_pt {n : Nat} {room : Int} {ms : List S60} {K : Nat} {st : St} (hg : Good n room ms) (hw : Wf n ms.length K st) (t : Int) : ∀ j : Nat, j ≤ n → GPt n t ms st (gets n t ms st j) j
  | 0, _ => ⟨rfl, rfl, rfl, rfl, rfl, fun s => by rw [if_neg (by omega)]; rfl, fun i hi => by rw [if_neg (by have := hg.m i hi; omega)]; rfl⟩
  | j + 1, hj => by
    have ih := gets_pt hg hw t j (by omega)
    have hlb := hw.buf
    have hlr := hw.rdd
    have hinA : inAt n (gets n t ms st j) j = inAt n st j := by unfold inAt; rw [ih.links]
    have hin := hw.in_ (j : Int) (by omega) (by omega)
    show GPt n t ms st (get1 n t ms (gets n t ms st j) j) (j + 1)
    generalize gets n t ms st j = g at ih hinA ⊢
    have hbj : g.buf.getD j [] = st.buf.getD j [] := by rw [ih.buf, if_neg (by omega)]
    by_cases hx : inAt n st j - 1 < 0
    · have e : get1 n t ms g j = g := by unfold get1; rw [hinA, if_pos hx]
      rw [e]
      refine ⟨ih.links, ih.ins, ih.peak, ih.lb, ih.lr, fun s => ?_, fun i hi => ?_⟩
      · by_cases hs : s = j
        · subst hs
          rw [hbj, if_pos (by omega), mid, arr, if_pos hx, List.append_nil]
        · rw [ih.buf]
          by_cases hlt : s < j
          · rw [if_pos hlt, if_pos (by omega)]
          · rw [if_neg hlt, if_neg (by omega)]
      · rw [ih.rdd i hi]
        by_cases hlt : (rd_T60 ms i).f2 < j
        · by_cases hr : rdNow n ms st i
          · rw [if_pos ⟨hlt, hr⟩, if_pos ⟨by omega, hr⟩]
          · rw [if_neg (fun h => hr h.2), if_neg (fun h => hr h.2)]
        · rw [if_neg (fun h => hlt h.1), if_neg]
          rintro ⟨h1, h2⟩
          have h3 : (rd_T60 ms i).f2 = (j : Int) := by omega
          unfold rdNow at h2
          rw [h3] at h2
          omega
    · obtain ⟨k, hk⟩ : ∃ k : Nat, inAt n st j = (k : Int) + 1 := ⟨(inAt n st j - 1).toNat, by omega⟩
      have hkM : k < ms.length := by omega
      by_cases hto : (rd_T60 ms (k : Int)).f2 = (j : Int)
      · have e : get1 n t ms g j = { g with rdd := g.rdd.set k t } := by
          unfold get1
          rw [hinA, if_neg hx, show inAt n st j - 1 = (k : Int) by omega, if_pos hto, Int.toNat_natCast]
        rw [e]
        refine ⟨ih.links, ih.ins, ih.peak, ih.lb, by simpa using ih.lr, fun s => ?_, fun i hi => ?_⟩
        · by_cases hs : s = j
          · subst hs
            show g.buf.getD s [] = _
            rw [hbj, if_pos (by omega), mid, arr, if_neg hx, show inAt n st s - 1 = (k : Int) by omega, if_pos hto, List.append_nil]
          · show g.buf.getD s [] = _
            rw [ih.buf]
            by_cases hlt : s < j
            · rw [if_pos hlt, if_pos (by omega)]
            · rw [if_neg hlt, if_neg (by omega)]
        · show rd (g.rdd.set k t) (i : Int) = _
          rw [rd_set' _ _ _ _ (by have := ih.lr; omega)]
          by_cases hik : i = k
          · subst hik
            rw [if_pos rfl, if_pos]
            refine ⟨by omega, ?_⟩
            unfold rdNow
            rw [hto]
            exact hk
          · rw [if_neg hik, ih.rdd i hi]
            by_cases hlt : (rd_T60 ms i).f2 < j
            · by_cases hr : rdNow n ms st i
              · rw [if_pos ⟨hlt, hr⟩, if_pos ⟨by omega, hr⟩]
              · rw [if_neg (fun h => hr h.2), if_neg (fun h => hr h.2)]
            · rw [if_neg (fun h => hlt h.1), if_neg]
              rintro ⟨h1, h2⟩
              have h3 : (rd_T60 ms i).f2 = (j : Int) := by omega
              unfold rdNow at h2
              rw [h3] at h2
              omega
      · have e : get1 n t ms g j = { g with buf := g.buf.set j (g.buf.getD j [] ++ [(k : Int)]) } := by
          unfold get1
          rw [hinA, if_neg hx, show inAt n st j - 1 = (k : Int) by omega, if_neg hto, Int.toNat_natCast]
        rw [e]
        refine ⟨ih.links, ih.ins, ih.peak, by simpa using ih.lb, ih.lr, fun s => ?_, fun i hi => ?_⟩
        · show (g.buf.set j (g.buf.getD j [] ++ [(k : Int)])).getD s [] = _
          rw [getD_set _ _ _ _ (by have := ih.lb; omega)]
          by_cases hs : s = j
          · subst hs
            rw [if_pos rfl, if_pos (by omega), hbj, mid, arr, if_neg hx, show inAt n st s - 1 = (k : Int) by omega, if_neg hto]
          · rw [if_neg hs, ih.buf]
            by_cases hlt : s < j
            · rw [if_pos hlt, if_pos (by omega)]
            · rw [if_neg hlt, if_neg (by omega)]
        · show rd g.rdd (i : Int) = _
          rw [ih.rdd i hi]
          by_cases hlt : (rd_T60 ms i).f2 < j
          · by_cases hr : rdNow n ms st i
            · rw [if_pos ⟨hlt, hr⟩, if_pos ⟨by omega, hr⟩]
            · rw [if_neg (fun h => hr h.2), if_neg (fun h => hr h.2)]
          · rw [if_neg (fun h => hlt h.1), if_neg]
            rintro ⟨h1, h2⟩
            have h3 : (rd_T60 ms i).f2 = (j : Int) := by omega
            unfold rdNow at h2
            rw [h3] at h2
            have : i = k := by omega
            subst this
            exact hto h3
theorem ownL_congr (s t : Int) (ins ins' : List Int) : ∀ (ms : List S60) (i : Nat), (∀ q : Nat, q < ms.length → (rd_T60 ms q).f1 = s → rd ins ((i + q : Nat) : Int) = rd ins' ((i + q : Nat) : Int)) → ownL s t ins ms i = ownL s t ins' ms i
  | [], i, _ => rfl
  | m :: ms, i, h => by
    have ih := ownL_congr s t ins ins' ms (i + 1) (fun q hq hf => by
      have := h (q + 1) (by simpa using hq) (by rw [show rd_T60 (m :: ms) ((q + 1 : Nat) : Int) = rd_T60 ms (q : Int) by simp [rd_T60]]; exact hf)
      rwa [show i + (q + 1) = i + 1 + q by omega] at this)
    rw [ownL, ownL, ih]
    by_cases hs : m.f1 = s
    · have := h 0 (by simp) (by rw [show rd_T60 (m :: ms) ((0 : Nat) : Int) = m from rfl]; exact hs)
      rw [Nat.add_zero] at this
      rw [this]
    · rw [if_neg (fun h => hs h.1), if_neg (fun h => hs h.1)]
/-- All before the one that is chosen have gone. -/
theorem ownL_first (s t : Int) (ins : List Int) : ∀ (ms : List S60) (i k : Nat), ownL s t ins ms i = (k : Int) → ∀ q : Nat, q < ms.length → i + q < k → (rd_T60 ms q).f1 = s → (rd_T60 ms q).f0 ≤ t → 0 ≤ rd ins ((i + q : Nat) : Int)
  | [], i, k, h, q, hq, _, _, _ => by simp at hq
  | m :: ms, i, k, h, q, hq, hlt, h1, h2 => by
    rw [ownL] at h
    split at h
    · rename_i hn
      omega
    · rename_i hn
      cases q with
      | zero =>
        have e : rd_T60 (m :: ms) ((0 : Nat) : Int) = m := rfl
        rw [e] at h1 h2
        have h3 : ¬ rd ins (i : Int) < 0 := fun h3 => hn ⟨h1, h2, h3⟩
        simpa using h3
      | succ q =>
        have e : rd_T60 (m :: ms) ((q + 1 : Nat) : Int) = rd_T60 ms (q : Int) := by simp [rd_T60]
        rw [e] at h1 h2
        have := ownL_first s t ins ms (i + 1) k h q (by simpa using hq) (by omega) h1 h2
        rw [show i + (q + 1) = i + 1 + q by omega]
        exact this
theorem ownC_facts {t : Int} {ms : List S60} {st : St} {s : Int} {k : Nat} (h : ownC t ms st s = k) : k < ms.length ∧ (rd_T60 ms k).f1 = s ∧ (rd_T60 ms k).f0 ≤ t ∧ rd st.ins k < 0 ∧ ∀ q : Nat, q < k → (rd_T60 ms q).f1 = s → (rd_T60 ms q).f0 ≤ t → 0 ≤ rd st.ins q := by
  obtain ⟨q, q1, q2, q3, q4, q5⟩ := ownL_some s t st.ins ms 0 k h
  obtain rfl : k = q := by omega
  refine ⟨q1, q3, q4, q5, fun q hq h1 h2 => ?_⟩
  have := ownL_first s t st.ins ms 0 k h q (by omega) (by omega) h1 h2
  simpa using this
/-- Does a station send cell i as its own? -/
def goes (room : Int) (ow : Bool) (t : Int) (ms : List S60) (g : St) (s : Int) (i : Nat) : Prop := ownB room ow t ms g s = true ∧ ownC t ms g s = i
instance (room : Int) (ow : Bool) (t : Int) (ms : List S60) (g : St) (s : Int) (i : Nat) : Decidable (goes room ow t ms g s i) := by unfold goes; infer_instance
def bufS (room : Int) (ow : Bool) (t : Int) (ms : List S60) (g : St) (q : Nat) : List Int := if ownB room ow t ms g q = true then g.buf.getD q [] else (g.buf.getD q []).tail
structure SPt (room : Int) (ow : Bool) (t : Int) (ms : List S60) (g s : St) (j : Nat) : Prop where
  rdd : s.rdd = g.rdd
  lb : s.buf.length = g.buf.length
  ll : s.links.length = g.links.length
  li : s.ins.length = g.ins.length
  buf : ∀ q : Nat, s.buf.getD q [] = if q < j then bufS room ow t ms g q else g.buf.getD q []
  links : ∀ q : Nat, rd s.links q = if q < j then sent room ow t ms g q else rd g.links q
  ins : ∀ i : Nat, i < ms.length → rd s.ins i = if (rd_T60 ms i).f1 < j ∧ goes room ow t ms g (rd_T60 ms i).f1 i then t else rd g.ins i
  peak : ∀ x : Int, s.peak ≤ x ↔ g.peak ≤ x ∧ ∀ q : Nat, q < j → ((bufS room ow t ms g q).length : Int) ≤ x
theorem SPt.own {room : Int} {ow : Bool} {t : Int} {ms : List S60} {g s : St} {j : Nat} (h : SPt room ow t ms g s j) (q : Nat) (hq : j ≤ q) : ownC t ms s q = ownC t ms g q ∧ ownB room ow t ms s q = ownB room ow t ms g q ∧ sent room ow t ms s q = sent room ow t ms g q := by
  have e1 : ownC t ms s q = ownC t ms g q := by
    unfold ownC
    refine ownL_congr _ _ _ _ _ _ fun i hi hf => ?_
    rw [Nat.zero_add, h.ins i hi, if_neg (by omega)]
  have e2 : s.buf.getD q [] = g.buf.getD q [] := by rw [h.buf, if_neg (by omega)]
  have e3 : ownB room ow t ms s q = ownB room ow t ms g q := by simp only [ownB, e1, Int.toNat_natCast, e2]
  exact ⟨e1, e3, by simp only [sent, e3, e1, Int.toNat_natCast, e2]⟩
theorem sends_pt {n : Nat} {room : Int} {ms : List S60} {K : Nat} {g : St} (hg : Good n room ms) (hw : Wf n ms.length K g) (ow : Bool) (t : Int) : ∀ j : Nat, j ≤ n → SPt room ow t ms g (sends room ow t ms g j) j
  | 0, _ => ⟨rfl, rfl, rfl, rfl, fun s => by rw [if_neg (by omega)]; rfl, fun q => by rw [if_neg (by omega)]; rfl, fun i hi => by rw [if_neg (by have := hg.m i hi; omega)]; rfl, fun x => ⟨fun h => ⟨h, fun q hq => by omega⟩, fun h => h.1⟩⟩
  | j + 1, hj => by
    have ih := sends_pt hg hw ow t j (by omega)
    have hlb := hw.buf
    have hli := hw.ins
    have hll := hw.links
    obtain ⟨o1, o2, o3⟩ := ih.own j (by omega)
    show SPt room ow t ms g (send1 room ow t ms (sends room ow t ms g j) j) (j + 1)
    generalize sends room ow t ms g j = s at ih o1 o2 o3 ⊢
    have hbj : s.buf.getD j [] = g.buf.getD j [] := by rw [ih.buf, if_neg (by omega)]
    have hc := ownC_range t ms g j
    have hB : (sendS room ow t ms s j).buf.getD j [] = bufS room ow t ms g j := by
      simp only [sendS, o2, bufS]
      by_cases hO : ownB room ow t ms g j = true
      · rw [if_pos hO, if_pos hO]
        exact hbj
      · rw [if_neg hO, if_neg hO]
        show (s.buf.set (j : Int).toNat _).getD j [] = _
        rw [Int.toNat_natCast, getD_set _ _ _ _ (by have := ih.lb; omega), if_pos rfl, hbj]
    refine ⟨ih.rdd, ?_, by simpa [send1] using ih.ll, ?_, fun q => ?_, fun q => ?_, fun i hi => ?_, fun x => ?_⟩
    · show (sendS room ow t ms s j).buf.length = _
      simp only [sendS]
      split
      · exact ih.lb
      · simpa using ih.lb
    · show (sendS room ow t ms s j).ins.length = _
      simp only [sendS]
      split
      · simpa using ih.li
      · exact ih.li
    · show (sendS room ow t ms s j).buf.getD q [] = _
      by_cases hq : q = j
      · subst hq
        rw [if_pos (by omega), hB]
      · have e : (sendS room ow t ms s j).buf.getD q [] = s.buf.getD q [] := by
          simp only [sendS]
          split
          · rfl
          · show (s.buf.set (j : Int).toNat _).getD q [] = _
            rw [Int.toNat_natCast, getD_set _ _ _ _ (by have := ih.lb; omega), if_neg hq]
        rw [e, ih.buf]
        by_cases hlt : q < j
        · rw [if_pos hlt, if_pos (by omega)]
        · rw [if_neg hlt, if_neg (by omega)]
    · show rd (s.links.set (j : Int).toNat (sent room ow t ms s j)) q = _
      rw [Int.toNat_natCast, rd_set' _ _ _ _ (by have := ih.ll; omega)]
      by_cases hq : q = j
      · subst hq
        rw [if_pos rfl, if_pos (by omega), o3]
      · rw [if_neg hq, ih.links]
        by_cases hlt : q < j
        · rw [if_pos hlt, if_pos (by omega)]
        · rw [if_neg hlt, if_neg (by omega)]
    · show rd (sendS room ow t ms s j).ins i = _
      have hrest : (¬ (ownB room ow t ms g j = true ∧ ownC t ms g j = i)) → (if (rd_T60 ms i).f1 < (j : Int) ∧ goes room ow t ms g (rd_T60 ms i).f1 i then t else rd g.ins i) = if (rd_T60 ms i).f1 < ((j + 1 : Nat) : Int) ∧ goes room ow t ms g (rd_T60 ms i).f1 i then t else rd g.ins i := by
        intro hno
        by_cases hlt : (rd_T60 ms i).f1 < j
        · by_cases hr : goes room ow t ms g (rd_T60 ms i).f1 i
          · rw [if_pos ⟨hlt, hr⟩, if_pos ⟨by omega, hr⟩]
          · rw [if_neg (fun h => hr h.2), if_neg (fun h => hr h.2)]
        · rw [if_neg (fun h => hlt h.1), if_neg]
          rintro ⟨h1, h2⟩
          rw [show (rd_T60 ms i).f1 = (j : Int) by omega] at h2
          exact hno h2
      by_cases hO : ownB room ow t ms g j = true
      · have hc0 : 0 ≤ ownC t ms g j := by simp only [ownB, Bool.and_eq_true, decide_eq_true_eq] at hO; exact hO.1
        obtain ⟨k, hk⟩ : ∃ k : Nat, ownC t ms g j = (k : Int) := ⟨(ownC t ms g j).toNat, by omega⟩
        have hf := ownC_facts hk
        have e : (sendS room ow t ms s j).ins = s.ins.set k t := by simp only [sendS, o2, hO, if_true, o1, hk, Int.toNat_natCast]
        rw [e, rd_set' _ _ _ _ (by have := ih.li; omega)]
        by_cases hik : i = k
        · subst hik
          rw [if_pos rfl, if_pos]
          refine ⟨by rw [hf.2.1]; omega, ?_⟩
          rw [hf.2.1]
          exact ⟨hO, hk⟩
        · rw [if_neg hik, ih.ins i hi]
          exact hrest (fun h => hik (by have := h.2; omega))
      · have e : (sendS room ow t ms s j).ins = s.ins := by simp only [sendS, o2, if_neg hO]
        rw [e, ih.ins i hi]
        exact hrest (fun h => hO h.1)
    · show mx s.peak (((sendS room ow t ms s j).buf.getD (j : Int).toNat []).length : Int) ≤ x ↔ _
      rw [Int.toNat_natCast, hB]
      have h1 := ih.peak x
      have h2 : mx s.peak ((bufS room ow t ms g j).length : Int) ≤ x ↔ s.peak ≤ x ∧ ((bufS room ow t ms g j).length : Int) ≤ x := by unfold mx; split <;> omega
      rw [h2, h1]
      constructor
      · rintro ⟨⟨a, b⟩, c⟩
        refine ⟨a, fun q hq => ?_⟩
        by_cases hqj : q = j
        · rw [hqj]; exact c
        · exact b q (by omega)
      · rintro ⟨a, b⟩
        exact ⟨⟨a, fun q hq => b q (by omega)⟩, b j (by omega)⟩
/-- The ring when all stations have got their cells. -/
def half (n : Nat) (t : Int) (ms : List S60) (st : St) : St := gets n t ms st n
/-- A tick, station by station. -/
structure TPt (n : Nat) (room : Int) (ow : Bool) (t : Int) (ms : List S60) (st s : St) : Prop where
  buf : ∀ q : Nat, q < n → s.buf.getD q [] = if ownB room ow t ms (half n t ms st) q = true then mid n ms st q else (mid n ms st q).tail
  links : ∀ q : Nat, q < n → rd s.links q = if ownB room ow t ms (half n t ms st) q = true then ownC t ms st q + 1 else match mid n ms st q with | [] => 0 | x :: _ => x + 1
  ins : ∀ i : Nat, i < ms.length → rd s.ins i = if ownB room ow t ms (half n t ms st) (rd_T60 ms i).f1 = true ∧ ownC t ms st (rd_T60 ms i).f1 = i then t else rd st.ins i
  rdd : ∀ i : Nat, i < ms.length → rd s.rdd i = if rdNow n ms st i then t else rd st.rdd i
  peak : ∀ x : Int, s.peak ≤ x ↔ st.peak ≤ x ∧ ∀ q : Nat, q < n → ((s.buf.getD q []).length : Int) ≤ x
  own : ∀ q : Nat, q < n → (ownB room ow t ms (half n t ms st) q = true ↔ 0 ≤ ownC t ms st q ∧ if ow = true then ((mid n ms st q).length : Int) < room else mid n ms st q = [])
theorem tick_pt {n : Nat} {room : Int} {ms : List S60} {K : Nat} {st : St} (hg : Good n room ms) (hK : K + 12 ≤ 1000000) (hw : Wf n ms.length K st) (ow : Bool) (t : Int) : TPt n room ow t ms st (tick1 n room ow t ms st) := by
  have hn12 := hg.n12
  have G := gets_pt hg hw t n (Nat.le_refl _)
  have hwG := hw.gets (by omega) t ms n (by omega)
  have S := sends_pt hg hwG ow t n (Nat.le_refl _)
  have e : tick1 n room ow t ms st = sends room ow t ms (gets n t ms st n) n := by rw [tick1, Int.toNat_natCast]
  rw [e]
  have hh : half n t ms st = gets n t ms st n := rfl
  rw [← hh] at S G ⊢
  generalize hG : half n t ms st = g at G S ⊢
  have hC : ∀ q : Int, ownC t ms g q = ownC t ms st q := fun q => by unfold ownC; rw [G.ins]
  have hb : ∀ q : Nat, q < n → g.buf.getD q [] = mid n ms st q := fun q hq => by rw [G.buf, if_pos hq]
  have hbS : ∀ q : Nat, q < n → bufS room ow t ms g q = if ownB room ow t ms g q = true then mid n ms st q else (mid n ms st q).tail := fun q hq => by simp only [bufS, hb q hq]
  refine ⟨fun q hq => ?_, fun q hq => ?_, fun i hi => ?_, fun i hi => ?_, fun x => ?_, fun q hq => ?_⟩ <;> (try rw [hG])
  · rw [S.buf, if_pos hq, hbS q hq]
  · rw [S.links, if_pos hq]
    simp only [sent, hC, Int.toNat_natCast, hb q hq]
    rfl
  · rw [S.ins i hi, G.ins]
    simp only [goes, hC]
    have hm := hg.m i hi
    by_cases h : ownB room ow t ms g (rd_T60 ms i).f1 = true ∧ ownC t ms st (rd_T60 ms i).f1 = i
    · rw [if_pos ⟨hm.2.1.2, h⟩, if_pos h]
    · rw [if_neg (fun h' => h h'.2), if_neg h]
  · rw [S.rdd, G.rdd i hi]
    have hm := hg.m i hi
    by_cases h : rdNow n ms st i
    · rw [if_pos ⟨hm.2.2.1.2, h⟩, if_pos h]
    · rw [if_neg (fun h' => h h'.2), if_neg h]
  · rw [S.peak x, G.peak]
    constructor
    · rintro ⟨a, b⟩
      exact ⟨a, fun q hq => by rw [S.buf, if_pos hq]; exact b q hq⟩
    · rintro ⟨a, b⟩
      exact ⟨a, fun q hq => by have := b q hq; rwa [S.buf, if_pos hq] at this⟩
  · simp only [ownB, hC, Int.toNat_natCast, hb q hq, Bool.and_eq_true, decide_eq_true_eq]
    cases ow <;> simp
end Ins
end Go.Proofs.Ytkfghiofmamdnaa.PA
namespace Go.Proofs.Ytkfghiofmamdnaa.PA
open Go.RowKit Go.Proofs.YtkfghiofmamdnaaW.PrintWords Go.Proofs.YtkfghiofmamdnaaW.PrintLast Go.Proofs.YtkfghiofmamdnaaW.PrintMore
set_option linter.unusedVariables false
set_option linter.unusedSimpArgs false
namespace Ins
/-! sums -/
theorem sumN_add (f g : Nat → Int) : ∀ n : Nat, sumN (fun i => f i + g i) n = sumN f n + sumN g n
  | 0 => rfl
  | n + 1 => by rw [sumN, sumN_add f g n, sumN, sumN]; omega
theorem sumN_sub (f g : Nat → Int) : ∀ n : Nat, sumN (fun i => f i - g i) n = sumN f n - sumN g n
  | 0 => rfl
  | n + 1 => by rw [sumN, sumN_sub f g n, sumN, sumN]; omega
def ind (p : Prop) [Decidable p] : Int := if p then 1 else 0
theorem ind_pos {p : Prop} [Decidable p] (h : p) : ind p = 1 := if_pos h
theorem ind_neg {p : Prop} [Decidable p] (h : ¬ p) : ind p = 0 := if_neg h
theorem ind_01 (p : Prop) [Decidable p] : (p ∧ ind p = 1) ∨ (¬ p ∧ ind p = 0) := by
  by_cases h : p
  · exact .inl ⟨h, ind_pos h⟩
  · exact .inr ⟨h, ind_neg h⟩
theorem sumN_one (a : Nat) (v : Int) : ∀ n : Nat, sumN (fun i => if i = a then v else 0) n = if a < n then v else 0
  | 0 => rfl
  | n + 1 => by
    rw [sumN, sumN_one a v n]
    by_cases h : a < n
    · rw [if_pos h, if_neg (show ¬ n = a by omega), if_pos (show a < n + 1 by omega)]; omega
    · by_cases h2 : n = a
      · rw [if_neg h, if_pos h2, if_pos (show a < n + 1 by omega)]; omega
      · rw [if_neg h, if_neg h2, if_neg (show ¬ a < n + 1 by omega)]; omega
theorem sumN_pos {f : Nat → Int} : ∀ n : Nat, 0 < sumN f n → ∃ i, i < n ∧ 0 < f i
  | 0, h => by simp [sumN] at h
  | n + 1, h => by
    rw [sumN] at h
    by_cases hn : 0 < f n
    · exact ⟨n, by omega, hn⟩
    · obtain ⟨i, hi, h2⟩ := sumN_pos (f := f) n (by omega)
      exact ⟨i, by omega, h2⟩
theorem sumN_ge {f : Nat → Int} : ∀ n : Nat, (∀ i, i < n → 0 ≤ f i) → ∀ i, i < n → f i ≤ sumN f n
  | 0, _, i, hi => by omega
  | n + 1, h, i, hi => by
    rw [sumN]
    have h0 := sumN_nonneg n (fun i hi => h i (by omega))
    by_cases e : i = n
    · subst e; omega
    · have := sumN_ge n (fun i hi => h i (by omega)) i (by omega)
      have := h n (by omega)
      omega
def cntI (i : Int) (l : List Int) : Int := lsum (fun x => ind (x = i)) l
theorem cntI_nonneg (i : Int) (l : List Int) : 0 ≤ cntI i l := lsum_nonneg _ _ fun x _ => by unfold ind; split <;> omega
theorem cntI_append (i : Int) (b : List Int) : ∀ a : List Int, cntI i (a ++ b) = cntI i a + cntI i b
  | [] => by simp [cntI, lsum]
  | x :: a => by
    have := cntI_append i b a
    simp only [cntI, List.cons_append, lsum] at this ⊢
    omega
theorem cntI_mem (i : Int) : ∀ a : List Int, 0 < cntI i a ↔ i ∈ a
  | [] => by simp [cntI, lsum]
  | x :: a => by
    have h := cntI_mem i a
    have h0 := cntI_nonneg i a
    simp only [cntI, lsum, List.mem_cons] at h h0 ⊢
    rcases ind_01 (x = i) with ⟨h1, h2⟩ | ⟨h1, h2⟩
    · rw [h2]
      exact ⟨fun _ => .inl h1.symm, fun _ => by omega⟩
    · rw [h2]
      constructor
      · intro h3
        exact .inr (h.1 (by omega))
      · rintro (h3 | h3)
        · exact absurd h3.symm h1
        · have := h.2 h3; omega
/-- How often a cell is underway. -/
def cntB (n : Nat) (st : St) (i : Nat) : Int := sumN (fun s => cntI i (st.buf.getD s [])) n
def cntL (n : Nat) (st : St) (i : Nat) : Int := sumN (fun s => ind (rd st.links (s : Int) = i + 1)) n
theorem cntL_in {n : Nat} (st : St) (i : Nat) (n2 : 2 ≤ n) : sumN (fun s => ind (inAt n st (s : Int) = i + 1)) n = cntL n st i := by
  obtain ⟨m, rfl⟩ : ∃ m, n = m + 1 := ⟨n - 1, by omega⟩
  have h2 := sumN_shift (fun s => ind (inAt (m + 1 : Nat) st (s : Int) = i + 1)) m
  have h1 : sumN (fun s => ind (inAt (m + 1 : Nat) st ((s + 1 : Nat) : Int) = i + 1)) m = sumN (fun s => ind (rd st.links (s : Int) = i + 1)) m := sumN_congr m fun s hs => by rw [inAt_succ st (by omega)]
  have h0 : ind (inAt (m + 1 : Nat) st ((0 : Nat) : Int) = i + 1) = ind (rd st.links (m : Int) = i + 1) := by rw [inAt_zero st n2]; rfl
  have h3 : cntL (m + 1) st i = sumN (fun s => ind (rd st.links (s : Int) = i + 1)) m + ind (rd st.links (m : Int) = i + 1) := rfl
  omega
structure Bal (n : Nat) (ms : List S60) (j : Nat) (st : St) : Prop where
  bal : ∀ i : Nat, i < ms.length → cntB n st i + cntL n st i + ind (0 ≤ rd st.rdd i) = ind (0 ≤ rd st.ins i)
  ins : ∀ i : Nat, i < ms.length → rd st.ins i = -1 ∨ (0 ≤ rd st.ins i ∧ rd st.ins i < j ∧ (rd_T60 ms i).f0 ≤ rd st.ins i)
  rdd : ∀ i : Nat, i < ms.length → rd st.rdd i = -1 ∨ (0 ≤ rd st.rdd i ∧ rd st.rdd i < j)
theorem cntB_nonneg (n : Nat) (st : St) (i : Nat) : 0 ≤ cntB n st i := sumN_nonneg n fun s _ => cntI_nonneg _ _
theorem cntL_nonneg (n : Nat) (st : St) (i : Nat) : 0 ≤ cntL n st i := sumN_nonneg n fun s _ => by unfold ind; split <;> omega
theorem rdNow_cnt {n : Nat} {room : Int} {ms : List S60} {st : St} (hg : Good n room ms) {i : Nat} (hi : i < ms.length) (h : rdNow n ms st i) : 1 ≤ cntL n st i := by
  have hm := hg.m i hi
  rw [← cntL_in st i hg.n2]
  obtain ⟨s, hs⟩ : ∃ s : Nat, (rd_T60 ms i).f2 = (s : Int) := ⟨(rd_T60 ms i).f2.toNat, by omega⟩
  have := sumN_ge (f := fun s : Nat => ind (inAt n st (s : Int) = i + 1)) n (fun s _ => by simp only [ind]; split <;> omega) s (by omega)
  have e : ind (inAt n st (s : Int) = i + 1) = 1 := ind_pos (by unfold rdNow at h; rw [hs] at h; exact h)
  omega
theorem arr_cnt {n : Nat} {K : Nat} {ms : List S60} {st : St} (hw : Wf n ms.length K st) (i s : Nat) (hs : s < n) : cntI i (arr n ms st s) = ind (inAt n st (s : Int) = i + 1) - (if (s : Int) = (rd_T60 ms i).f2 then ind (rdNow n ms st i) else 0) := by
  have hin := hw.in_ (s : Int) (by omega) (by omega)
  unfold arr
  by_cases hx : inAt n st s - 1 < 0
  · rw [if_pos hx, ind_neg (by omega)]
    by_cases e : (s : Int) = (rd_T60 ms i).f2
    · rw [if_pos e, ind_neg (by unfold rdNow; rw [← e]; omega)]; rfl
    · rw [if_neg e]; rfl
  · rw [if_neg hx]
    by_cases hto : (rd_T60 ms (inAt n st s - 1)).f2 = s
    · rw [if_pos hto]
      by_cases hk : inAt n st (s : Int) = i + 1
      · have : (s : Int) = (rd_T60 ms i).f2 := by rw [show inAt n st s - 1 = (i : Int) by omega] at hto; exact hto.symm
        rw [ind_pos hk, if_pos this, ind_pos (by unfold rdNow; rw [← this]; exact hk)]; rfl
      · rw [ind_neg hk]
        by_cases e : (s : Int) = (rd_T60 ms i).f2
        · rw [if_pos e, ind_neg (by unfold rdNow; rw [← e]; exact hk)]; rfl
        · rw [if_neg e]; rfl
    · rw [if_neg hto]
      by_cases hk : inAt n st (s : Int) = i + 1
      · have : ¬ (s : Int) = (rd_T60 ms i).f2 := fun e => hto (by rw [show inAt n st s - 1 = (i : Int) by omega]; exact e.symm)
        rw [ind_pos hk, if_neg this]
        simp only [cntI, lsum]
        rw [ind_pos (by omega)]; rfl
      · rw [ind_neg hk]
        have e2 : cntI i [inAt n st s - 1] = 0 := by simp only [cntI, lsum]; rw [ind_neg (by omega)]; rfl
        rw [e2]
        by_cases e : (s : Int) = (rd_T60 ms i).f2
        · rw [if_pos e, ind_neg (by unfold rdNow; rw [← e]; exact hk)]; rfl
        · rw [if_neg e]; rfl
theorem mid_cnt {n : Nat} {room : Int} {K : Nat} {ms : List S60} {st : St} (hg : Good n room ms) (hw : Wf n ms.length K st) (i : Nat) (hi : i < ms.length) : sumN (fun s => cntI i (mid n ms st s)) n = cntB n st i + cntL n st i - ind (rdNow n ms st i) := by
  have hm := hg.m i hi
  obtain ⟨a, ha⟩ : ∃ a : Nat, (rd_T60 ms i).f2 = (a : Int) := ⟨(rd_T60 ms i).f2.toNat, by omega⟩
  have e : sumN (fun s => cntI i (mid n ms st s)) n = sumN (fun s => cntI i (st.buf.getD s []) + (ind (inAt n st (s : Int) = i + 1) - (if s = a then ind (rdNow n ms st i) else 0))) n := sumN_congr n fun s hs => by
    rw [mid, cntI_append, arr_cnt hw i s hs, ha]
    by_cases e : s = a
    · rw [if_pos e, if_pos (by omega)]
    · rw [if_neg e, if_neg (by omega)]
  rw [e, sumN_add, sumN_sub, sumN_one, if_pos (by omega), cntL_in st i hg.n2]
  show _ = sumN _ n + _ - _
  omega
theorem mid_range {n : Nat} {K : Nat} {ms : List S60} {st : St} (hw : Wf n ms.length K st) (s : Nat) (hs : s < n) : ∀ x ∈ mid n ms st s, 0 ≤ x ∧ x < ms.length := by
  intro x hx
  have hin := hw.in_ (s : Int) (by omega) (by omega)
  rcases List.mem_append.1 hx with hx | hx
  · exact (hw.row s).2 x hx
  · unfold arr at hx
    split at hx
    · simp at hx
    split at hx
    · simp at hx
    · rw [List.mem_singleton.1 hx]; omega
theorem out_cnt {n : Nat} {room : Int} {ow : Bool} {t : Int} {K : Nat} {ms : List S60} {st s' : St} (hw : Wf n ms.length K st) (T : TPt n room ow t ms st s') (i q : Nat) (hq : q < n) :
    cntI i (s'.buf.getD q []) + ind (rd s'.links (q : Int) = i + 1) = cntI i (mid n ms st q) + ind (ownB room ow t ms (half n t ms st) q = true ∧ ownC t ms st q = i) := by
  rw [T.buf q hq, T.links q hq]
  have hr := mid_range hw q hq
  by_cases hO : ownB room ow t ms (half n t ms st) q = true
  · rw [if_pos hO, if_pos hO]
    congr 1
    by_cases h : ownC t ms st q = i
    · rw [ind_pos (by omega), ind_pos ⟨hO, h⟩]
    · rw [ind_neg (by omega), ind_neg (fun h' => h h'.2)]
  · rw [if_neg hO, if_neg hO, ind_neg (fun h' : _ ∧ _ => hO h'.1)]
    cases hm : mid n ms st q with
    | nil =>
      simp only [List.tail_nil]
      rw [ind_neg (by omega)]
    | cons x tl =>
      have := hr x (by rw [hm]; simp)
      simp only [List.tail_cons, cntI, lsum]
      by_cases h : x = i
      · rw [ind_pos (by omega), ind_pos h]; omega
      · rw [ind_neg (by omega), ind_neg h]; omega
theorem Bal.tick {n : Nat} {room : Int} {ow : Bool} {K j : Nat} {ms : List S60} {st s' : St} (hg : Good n room ms) (hw : Wf n ms.length K st) (T : TPt n room ow j ms st s') (h : Bal n ms j st) : Bal n ms (j + 1) s' := by
  refine ⟨fun i hi => ?_, fun i hi => ?_, fun i hi => ?_⟩
  · have hb := h.bal i hi
    have hm := hg.m i hi
    obtain ⟨a, ha⟩ : ∃ a : Nat, (rd_T60 ms i).f1 = (a : Int) := ⟨(rd_T60 ms i).f1.toNat, by omega⟩
    have e1 : cntB n s' i + cntL n s' i = sumN (fun q => cntI i (mid n ms st q)) n + ind (ownB room ow j ms (half n j ms st) (rd_T60 ms i).f1 = true ∧ ownC j ms st (rd_T60 ms i).f1 = i) := by
      unfold cntB cntL
      rw [← sumN_add, sumN_congr (g := fun q => cntI i (mid n ms st q) + (if q = a then ind (ownB room ow j ms (half n j ms st) (rd_T60 ms i).f1 = true ∧ ownC j ms st (rd_T60 ms i).f1 = i) else 0)) n, sumN_add, sumN_one, if_pos (by omega)]
      intro q hq
      rw [out_cnt hw T i q hq]
      by_cases e : q = a
      · rw [if_pos e, ha, e]
      · rw [if_neg e, ind_neg]
        rintro ⟨_, h2⟩
        have := (ownC_facts h2).2.1
        omega
    rw [e1, mid_cnt hg hw i hi, T.rdd i hi, T.ins i hi]
    have hB0 := cntB_nonneg n st i
    have hL0 := cntL_nonneg n st i
    have hins : (ownB room ow j ms (half n j ms st) (rd_T60 ms i).f1 = true ∧ ownC j ms st (rd_T60 ms i).f1 = i) → rd st.ins i < 0 := fun hgo => (ownC_facts hgo.2).2.2.2.1
    have hrd : rdNow n ms st i → ind (0 ≤ rd st.rdd i) = 0 := fun hr => by
      have := rdNow_cnt hg hi hr
      rcases ind_01 (0 ≤ rd st.rdd i) with ⟨_, h2⟩ | ⟨_, h2⟩
      · rcases ind_01 (0 ≤ rd st.ins i) with ⟨_, h3⟩ | ⟨_, h3⟩ <;> omega
      · exact h2
    have eR : ind (0 ≤ if rdNow n ms st i then (j : Int) else rd st.rdd i) = ind (0 ≤ rd st.rdd i) + ind (rdNow n ms st i) := by
      by_cases hr : rdNow n ms st i
      · rw [hrd hr, ind_pos hr, ind_pos (by rw [if_pos hr]; omega)]; rfl
      · rw [ind_neg hr]
        simp only [if_neg hr]
        omega
    have eI : ind (0 ≤ if ownB room ow j ms (half n j ms st) (rd_T60 ms i).f1 = true ∧ ownC j ms st (rd_T60 ms i).f1 = i then (j : Int) else rd st.ins i) = ind (0 ≤ rd st.ins i) + ind (ownB room ow j ms (half n j ms st) (rd_T60 ms i).f1 = true ∧ ownC j ms st (rd_T60 ms i).f1 = i) := by
      by_cases hr : ownB room ow j ms (half n j ms st) (rd_T60 ms i).f1 = true ∧ ownC j ms st (rd_T60 ms i).f1 = i
      · rw [ind_neg (p := 0 ≤ rd st.ins i) (by have := hins hr; omega), ind_pos hr, ind_pos (by rw [if_pos hr]; omega)]; rfl
      · rw [ind_neg hr]
        simp only [if_neg hr]
        omega
    rw [eR, eI]
    omega
  · rw [T.ins i hi]
    split
    · rename_i hgo
      have := (ownC_facts hgo.2).2.2.1
      exact .inr ⟨by omega, by omega, this⟩
    · rcases h.ins i hi with h1 | h1
      · exact .inl h1
      · exact .inr ⟨h1.1, by omega, h1.2.2⟩
  · rw [T.rdd i hi]
    split
    · exact .inr ⟨by omega, by omega⟩
    · rcases h.rdd i hi with h1 | h1
      · exact .inl h1
      · exact .inr ⟨h1.1, by omega⟩
theorem st0_bal {n : Nat} (ms : List S60) : Bal n ms 0 (st0 n ms.length) := by
  have e0 : ∀ i : Nat, i < ms.length → rd (st0 n ms.length).ins i = -1 ∧ rd (st0 n ms.length).rdd i = -1 := fun i hi => ⟨rd_rep' _ _ _ hi, rd_rep' _ _ _ hi⟩
  refine ⟨fun i hi => ?_, fun i hi => .inl (e0 i hi).1, fun i hi => .inl (e0 i hi).2⟩
  have e1 : cntB n (st0 n ms.length) i = 0 := by
    have := sumN_le (f := fun s => cntI i ((st0 n ms.length).buf.getD s [])) (c := 0) n (fun s hs => by simp only [st0, getD_rep]; exact Int.le_refl 0)
    have h2 := cntB_nonneg n (st0 n ms.length) i
    unfold cntB at h2 ⊢
    omega
  have e2 : cntL n (st0 n ms.length) i = 0 := by
    have := sumN_le (f := fun s : Nat => ind (rd (st0 n ms.length).links (s : Int) = i + 1)) (c := 0) n (fun s hs => by
      have e : rd (st0 n ms.length).links s = 0 := rd_rep' _ _ _ hs
      simp only [e]
      rw [ind_neg (by omega)]
      omega)
    have h2 := cntL_nonneg n (st0 n ms.length) i
    unfold cntL at h2 ⊢
    omega
  rw [e1, e2, (e0 i hi).1, (e0 i hi).2]
  rfl
theorem stAt_pt {n : Nat} {room : Int} {ms : List S60} (hg : Good n room ms) (ow : Bool) (j : Nat) (hj : j ≤ 9990) : TPt n room ow j ms (stAt n room ow ms j) (stAt n room ow ms (j + 1)) :=
  tick_pt hg (K := 24 * j) (by omega) (stAt_wf room ow hg.n2 hg.n12 hg.M j (by omega)) ow j
theorem stAt_bal {n : Nat} {room : Int} {ms : List S60} (hg : Good n room ms) (ow : Bool) : ∀ j : Nat, j ≤ 9990 → Bal n ms j (stAt n room ow ms j)
  | 0, _ => st0_bal ms
  | j + 1, hj => (stAt_bal hg ow j (by omega)).tick hg (stAt_wf room ow hg.n2 hg.n12 hg.M j (by omega)) (stAt_pt hg ow j (by omega))
/-! what has been told stays -/
theorem ins_stays {n : Nat} {room : Int} {ms : List S60} (hg : Good n room ms) (ow : Bool) (i : Nat) (hi : i < ms.length) (j : Nat) : ∀ d : Nat, j + d ≤ 9990 →
    (0 ≤ rd (stAt n room ow ms j).ins i → rd (stAt n room ow ms (j + d)).ins i = rd (stAt n room ow ms j).ins i) ∧ (rd (stAt n room ow ms j).ins i < 0 → rd (stAt n room ow ms (j + d)).ins i = -1 ∨ (j : Int) ≤ rd (stAt n room ow ms (j + d)).ins i)
  | 0, hd => ⟨fun _ => rfl, fun h => .inl (by rcases (stAt_bal hg ow j (by omega)).ins i hi with h1 | h1 <;> simp only [Nat.add_zero] <;> omega)⟩
  | d + 1, hd => by
    obtain ⟨a, b⟩ := ins_stays hg ow i hi j d (by omega)
    have T := (stAt_pt hg ow (j + d) (by omega)).ins i hi
    rw [show j + (d + 1) = j + d + 1 by omega, T]
    refine ⟨fun h => ?_, fun h => ?_⟩
    · rw [if_neg, a h]
      rintro ⟨_, h2⟩
      have := (ownC_facts h2).2.2.2.1
      rw [a h] at this
      omega
    · split
      · exact .inr (by omega)
      · exact b h
theorem rdd_stays {n : Nat} {room : Int} {ms : List S60} (hg : Good n room ms) (ow : Bool) (i : Nat) (hi : i < ms.length) (j : Nat) : ∀ d : Nat, j + d ≤ 9990 →
    (0 ≤ rd (stAt n room ow ms j).rdd i → rd (stAt n room ow ms (j + d)).rdd i = rd (stAt n room ow ms j).rdd i) ∧ (rd (stAt n room ow ms j).rdd i < 0 → rd (stAt n room ow ms (j + d)).rdd i = -1 ∨ (j : Int) ≤ rd (stAt n room ow ms (j + d)).rdd i)
  | 0, hd => ⟨fun _ => rfl, fun h => .inl (by rcases (stAt_bal hg ow j (by omega)).rdd i hi with h1 | h1 <;> simp only [Nat.add_zero] <;> omega)⟩
  | d + 1, hd => by
    obtain ⟨a, b⟩ := rdd_stays hg ow i hi j d (by omega)
    have T := (stAt_pt hg ow (j + d) (by omega)).rdd i hi
    rw [show j + (d + 1) = j + d + 1 by omega, T]
    refine ⟨fun h => ?_, fun h => ?_⟩
    · rw [if_neg, a h]
      intro hr
      have h1 := rdNow_cnt hg hi hr
      have h2 := (stAt_bal hg ow (j + d) (by omega)).bal i hi
      have h3 := cntB_nonneg n (stAt n room ow ms (j + d)) i
      rw [ind_pos (p := 0 ≤ rd (stAt n room ow ms (j + d)).rdd i) (by rw [a h]; exact h)] at h2
      rcases ind_01 (0 ≤ rd (stAt n room ow ms (j + d)).ins i) with ⟨_, h5⟩ | ⟨_, h5⟩ <;> omega
    · split
      · exact .inr (by omega)
      · exact b h
/-- What is told behind all cells tells what was told behind each tick. -/
theorem told_at {n : Nat} {room : Int} {ms : List S60} (hg : Good n room ms) (ow : Bool) (D j : Nat) (hD : D ≤ 4000) (hj : j ≤ 4000) (i : Nat) (hi : i < ms.length) (hend : 0 ≤ rd (stAt n room ow ms D).rdd i) :
    (0 ≤ rd (stAt n room ow ms j).ins i ↔ rd (stAt n room ow ms D).ins i < j) ∧ (0 ≤ rd (stAt n room ow ms j).rdd i ↔ rd (stAt n room ow ms D).rdd i < j) ∧ 0 ≤ rd (stAt n room ow ms D).ins i := by
  have hbD := stAt_bal hg ow D (by omega)
  have hbj := stAt_bal hg ow j (by omega)
  have h0 : 0 ≤ rd (stAt n room ow ms D).ins i := by
    have h1 := hbD.bal i hi
    have h3 := cntB_nonneg n (stAt n room ow ms D) i
    have h4 := cntL_nonneg n (stAt n room ow ms D) i
    rw [ind_pos hend] at h1
    rcases ind_01 (0 ≤ rd (stAt n room ow ms D).ins i) with ⟨h5, _⟩ | ⟨_, h5⟩
    · exact h5
    · omega
  refine ⟨?_, ?_, h0⟩
  · by_cases hle : j ≤ D
    · obtain ⟨a, b⟩ := ins_stays hg ow i hi j (D - j) (by omega)
      rw [show j + (D - j) = D by omega] at a b
      constructor
      · intro h
        rw [a h]
        rcases hbj.ins i hi with h1 | h1 <;> omega
      · intro h
        by_cases hn : 0 ≤ rd (stAt n room ow ms j).ins i
        · exact hn
        · rcases b (by omega) with h1 | h1 <;> omega
    · obtain ⟨a, b⟩ := ins_stays hg ow i hi D (j - D) (by omega)
      rw [show D + (j - D) = j by omega] at a b
      rw [a h0]
      have := hbD.ins i hi
      constructor <;> intro h <;> omega
  · by_cases hle : j ≤ D
    · obtain ⟨a, b⟩ := rdd_stays hg ow i hi j (D - j) (by omega)
      rw [show j + (D - j) = D by omega] at a b
      constructor
      · intro h
        rw [a h]
        rcases hbj.rdd i hi with h1 | h1 <;> omega
      · intro h
        by_cases hn : 0 ≤ rd (stAt n room ow ms j).rdd i
        · exact hn
        · rcases b (by omega) with h1 | h1 <;> omega
    · obtain ⟨a, b⟩ := rdd_stays hg ow i hi D (j - D) (by omega)
      rw [show D + (j - D) = j by omega] at a b
      rw [a hend]
      have := hbD.rdd i hi
      constructor <;> intro h <;> omega
end Ins
end Go.Proofs.Ytkfghiofmamdnaa.PA
