/- Where the cells of an insertion ring are and when they came there; buffers have their room; cells from one station to another are read in their order; a ring with other names goes the same; no condition but what each theorem names. -/
import Derived.Test.YtkfghiofmamdnaaInPt
namespace Go.Proofs.Ytkfghiofmamdnaa.PA
open Go.RowKit Go.Proofs.YtkfghiofmamdnaaW.PrintWords Go.Proofs.YtkfghiofmamdnaaW.PrintLast Go.Proofs.YtkfghiofmamdnaaW.PrintMore
set_option linter.unusedVariables false
set_option linter.unusedSimpArgs false
namespace Ins
/-- How many links cell i has gone at a station, and how many it goes. -/
def dist (n : Nat) (ms : List S60) (i s : Int) : Int := (s - (rd_T60 ms i).f1) % n
def hopsI (n : Nat) (ms : List S60) (i : Int) : Int := dist n ms i (rd_T60 ms i).f2
theorem dist_facts {n : Nat} {room : Int} {ms : List S60} (hg : Good n room ms) {i : Nat} (hi : i < ms.length) {s : Nat} (hs : s < n) :
    0 ≤ dist n ms i s ∧ dist n ms i s < n ∧ (dist n ms i s = 0 ↔ (rd_T60 ms i).f1 = s) ∧ (dist n ms i s = hopsI n ms i ↔ (rd_T60 ms i).f2 = s) ∧ 1 ≤ hopsI n ms i ∧ hopsI n ms i < n := by
  have hm := hg.m i hi
  have n2 := hg.n2
  have n12 := hg.n12
  unfold hopsI dist
  generalize (rd_T60 ms i).f1 = x at *
  generalize (rd_T60 ms i).f2 = y at *
  have hn : n = 2 ∨ n = 3 ∨ n = 4 ∨ n = 5 ∨ n = 6 ∨ n = 7 ∨ n = 8 ∨ n = 9 ∨ n = 10 ∨ n = 11 ∨ n = 12 := by omega
  rcases hn with rfl | rfl | rfl | rfl | rfl | rfl | rfl | rfl | rfl | rfl | rfl <;> omega
/-- The station before another one. -/
def prev (n s : Nat) : Nat := (s + n - 1) % n
theorem prev_facts {n s : Nat} (n2 : 2 ≤ n) (n12 : n ≤ 12) (hs : s < n) : prev n s < n ∧ ((s : Int) + n - 1) % n = (prev n s : Int) := by
  unfold prev
  have hn : n = 2 ∨ n = 3 ∨ n = 4 ∨ n = 5 ∨ n = 6 ∨ n = 7 ∨ n = 8 ∨ n = 9 ∨ n = 10 ∨ n = 11 ∨ n = 12 := by omega
  rcases hn with rfl | rfl | rfl | rfl | rfl | rfl | rfl | rfl | rfl | rfl | rfl <;> omega
theorem inAt_prev {n s : Nat} (st : St) (n2 : 2 ≤ n) (n12 : n ≤ 12) (hs : s < n) : inAt n st s = rd st.links (prev n s : Int) := by
  rw [inAt, (prev_facts n2 n12 hs).2]
theorem dist_step {n : Nat} {room : Int} {ms : List S60} (hg : Good n room ms) {i : Nat} (hi : i < ms.length) {s : Nat} (hs : s < n) (h : dist n ms i (prev n s) < hopsI n ms i) : dist n ms i s = dist n ms i (prev n s) + 1 := by
  have hm := hg.m i hi
  have n2 := hg.n2
  have n12 := hg.n12
  unfold hopsI dist prev at *
  generalize (rd_T60 ms i).f1 = x at *
  generalize (rd_T60 ms i).f2 = y at *
  have hn : n = 2 ∨ n = 3 ∨ n = 4 ∨ n = 5 ∨ n = 6 ∨ n = 7 ∨ n = 8 ∨ n = 9 ∨ n = 10 ∨ n = 11 ∨ n = 12 := by omega
  rcases hn with rfl | rfl | rfl | rfl | rfl | rfl | rfl | rfl | rfl | rfl | rfl <;> omega
/-- Where cells are, and when they came there. -/
structure Pos (n : Nat) (ow : Bool) (ms : List S60) (j : Nat) (st : St) : Prop where
  buf : ∀ s : Nat, s < n → ∀ i : Nat, i < ms.length → (i : Int) ∈ st.buf.getD s [] → 1 ≤ dist n ms i s ∧ dist n ms i s < hopsI n ms i ∧ rd st.ins i + dist n ms i s + 1 ≤ j
  link : ∀ s : Nat, s < n → ∀ i : Nat, i < ms.length → rd st.links s = i + 1 → dist n ms i s < hopsI n ms i ∧ rd st.ins i + dist n ms i s + 1 ≤ j ∧ (ow = false → rd st.ins i + dist n ms i s + 1 = j)
  rdd : ∀ i : Nat, i < ms.length → 0 ≤ rd st.rdd i → rd st.ins i + hopsI n ms i ≤ rd st.rdd i ∧ (ow = false → rd st.ins i + hopsI n ms i = rd st.rdd i)
  empty : ow = false → ∀ s : Nat, s < n → st.buf.getD s [] = []
theorem under_ins {n j : Nat} {ms : List S60} {st : St} (hb : Bal n ms j st) {i : Nat} (hi : i < ms.length) : (∀ s : Nat, s < n → (i : Int) ∈ st.buf.getD s [] → 0 ≤ rd st.ins i ∧ rd st.rdd i < 0) ∧ (∀ s : Nat, s < n → rd st.links s = i + 1 → 0 ≤ rd st.ins i ∧ rd st.rdd i < 0) := by
  have h := hb.bal i hi
  have hB := cntB_nonneg n st i
  have hL := cntL_nonneg n st i
  have key : 1 ≤ cntB n st i + cntL n st i → 0 ≤ rd st.ins i ∧ rd st.rdd i < 0 := fun h1 => by
    rcases ind_01 (0 ≤ rd st.ins i) with ⟨a, b⟩ | ⟨a, b⟩ <;> rcases ind_01 (0 ≤ rd st.rdd i) with ⟨c, d⟩ | ⟨c, d⟩ <;> omega
  refine ⟨fun s hs hm => key ?_, fun s hs hm => key ?_⟩
  · have h1 := sumN_ge (f := fun s => cntI i (st.buf.getD s [])) n (fun s _ => cntI_nonneg _ _) s hs
    have h2 := (cntI_mem (i : Int) (st.buf.getD s [])).2 hm
    unfold cntB at *
    omega
  · have h1 := sumN_ge (f := fun s : Nat => ind (rd st.links (s : Int) = i + 1)) n (fun s _ => by simp only [ind]; split <;> omega) s hs
    simp only [ind_pos hm] at h1
    unfold cntL at *
    omega
theorem arr_mem {n : Nat} {ms : List S60} {st : St} {s i : Nat} (h : (i : Int) ∈ arr n ms st s) : inAt n st s = i + 1 ∧ (rd_T60 ms i).f2 ≠ s := by
  unfold arr at h
  split at h
  · simp at h
  split at h
  · simp at h
  · rename_i h1 h2
    have e := List.mem_singleton.1 h
    rw [← e] at h2
    exact ⟨by omega, h2⟩
theorem Pos.tick {n : Nat} {room : Int} {ow : Bool} {K j : Nat} {ms : List S60} {st s' : St} (hg : Good n room ms) (hw : Wf n ms.length K st) (T : TPt n room ow j ms st s') (hb : Bal n ms j st) (h : Pos n ow ms j st) : Pos n ow ms (j + 1) s' := by
  have n2 := hg.n2
  have n12 := hg.n12
  -- what was inserted stays
  have hst : ∀ i : Nat, i < ms.length → 0 ≤ rd st.ins i → rd s'.ins i = rd st.ins i := fun i hi h0 => by
    rw [T.ins i hi, if_neg]
    rintro ⟨_, h2⟩
    have := (ownC_facts h2).2.2.2.1
    omega
  have hmid : ∀ s : Nat, s < n → ∀ i : Nat, i < ms.length → (i : Int) ∈ mid n ms st s → (1 ≤ dist n ms i s ∧ dist n ms i s < hopsI n ms i) ∧ rd s'.ins i = rd st.ins i ∧ rd st.ins i + dist n ms i s ≤ j ∧ (ow = false → rd st.ins i + dist n ms i s = j) := by
    intro s hs i hi hm
    rcases List.mem_append.1 hm with hm | hm
    · obtain ⟨a, b, c⟩ := h.buf s hs i hi hm
      refine ⟨⟨a, b⟩, hst i hi ((under_ins hb hi).1 s hs hm).1, by omega, fun ho => ?_⟩
      rw [h.empty ho s hs] at hm
      simp at hm
    · obtain ⟨a, b⟩ := arr_mem hm
      rw [inAt_prev st n2 n12 hs] at a
      have hp := (prev_facts n2 n12 hs).1
      obtain ⟨c, d, e⟩ := h.link _ hp i hi a
      have hd := dist_step hg hi hs c
      have f := dist_facts hg hi hs
      have f0 := dist_facts hg hi hp
      refine ⟨⟨by omega, ?_⟩, hst i hi ((under_ins hb hi).2 _ hp a).1, by omega, fun ho => by have := e ho; omega⟩
      have : dist n ms i s ≠ hopsI n ms i := fun e => b (f.2.2.2.1.1 e)
      omega
  have hemp : ow = false → ∀ s : Nat, s < n → (mid n ms st s).length ≤ 1 := fun ho s hs => by
    rw [mid, h.empty ho s hs, List.nil_append]
    unfold arr
    split
    · simp
    split <;> simp
  refine ⟨fun s hs i hi hm => ?_, fun s hs i hi hl => ?_, fun i hi h0 => ?_, fun ho s hs => ?_⟩
  · have hm' : (i : Int) ∈ mid n ms st s := by
      rw [T.buf s hs] at hm
      split at hm
      · exact hm
      · exact List.mem_of_mem_tail hm
    obtain ⟨⟨a, b⟩, c, d, e⟩ := hmid s hs i hi hm'
    exact ⟨a, b, by omega⟩
  · rw [T.links s hs] at hl
    by_cases hO : ownB room ow j ms (half n j ms st) s = true
    · rw [if_pos hO] at hl
      have hc : ownC j ms st s = i := by omega
      have hf := ownC_facts hc
      have f := dist_facts hg hi hs
      have e0 : dist n ms i s = 0 := f.2.2.1.2 hf.2.1
      have ei : rd s'.ins i = j := by rw [T.ins i hi, if_pos]; rw [hf.2.1]; exact ⟨hO, hc⟩
      exact ⟨by omega, by omega, fun _ => by omega⟩
    · rw [if_neg hO] at hl
      cases hmm : mid n ms st s with
      | nil => rw [hmm] at hl; simp only at hl; omega
      | cons x tl =>
        rw [hmm] at hl
        simp only at hl
        obtain rfl : x = i := by omega
        obtain ⟨⟨a, b⟩, c, d, e⟩ := hmid s hs i hi (by rw [hmm]; simp)
        exact ⟨b, by omega, fun ho => by have := e ho; omega⟩
  · rw [T.rdd i hi] at h0 ⊢
    by_cases hr : rdNow n ms st i
    · rw [if_pos hr]
      have hm := hg.m i hi
      obtain ⟨s, hs⟩ : ∃ s : Nat, (rd_T60 ms i).f2 = (s : Int) := ⟨(rd_T60 ms i).f2.toNat, by omega⟩
      have hsn : s < n := by omega
      unfold rdNow at hr
      rw [hs, inAt_prev st n2 n12 hsn] at hr
      have hp := (prev_facts n2 n12 hsn).1
      obtain ⟨c, d, e⟩ := h.link _ hp i hi hr
      have hd := dist_step hg hi hsn c
      have f := dist_facts hg hi hsn
      have eh : dist n ms i s = hopsI n ms i := f.2.2.2.1.2 hs
      rw [hst i hi ((under_ins hb hi).2 _ hp hr).1]
      exact ⟨by omega, fun ho => by have := e ho; omega⟩
    · rw [if_neg hr] at h0 ⊢
      have hi0 : 0 ≤ rd st.ins i := by
        have h1 := hb.bal i hi
        have h3 := cntB_nonneg n st i
        have h4 := cntL_nonneg n st i
        rw [ind_pos h0] at h1
        rcases ind_01 (0 ≤ rd st.ins i) with ⟨h5, _⟩ | ⟨_, h5⟩
        · exact h5
        · omega
      rw [hst i hi hi0]
      exact h.rdd i hi h0
  · rw [T.buf s hs]
    have h1 := hemp ho s hs
    by_cases hO : ownB room ow j ms (half n j ms st) s = true
    · rw [if_pos hO]
      have := ((T.own s hs).1 hO).2
      rw [ho] at this
      simpa using this
    · rw [if_neg hO]
      cases hmm : mid n ms st s with
      | nil => rfl
      | cons x tl =>
        rw [hmm] at h1
        simp at h1
        simp [h1]
theorem st0_pos {n : Nat} (ow : Bool) (ms : List S60) : Pos n ow ms 0 (st0 n ms.length) := by
  refine ⟨fun s hs i hi hm => ?_, fun s hs i hi hl => ?_, fun i hi h0 => ?_, fun _ s hs => ?_⟩
  · simp only [st0, getD_rep] at hm
    simp at hm
  · have e : rd (st0 n ms.length).links s = 0 := rd_rep' _ _ _ hs
    omega
  · have e : rd (st0 n ms.length).rdd i = -1 := rd_rep' _ _ _ hi
    omega
  · simp only [st0, getD_rep]
theorem stAt_pos {n : Nat} {room : Int} {ms : List S60} (hg : Good n room ms) (ow : Bool) : ∀ j : Nat, j ≤ 9990 → Pos n ow ms j (stAt n room ow ms j)
  | 0, _ => st0_pos ow ms
  | j + 1, hj => (stAt_pos hg ow j (by omega)).tick hg (stAt_wf room ow hg.n2 hg.n12 hg.M j (by omega)) (stAt_pt hg ow j (by omega)) (stAt_bal hg ow j (by omega))
/-! no more than the room -/
theorem stAt_room {n : Nat} {room : Int} {ms : List S60} (hg : Good n room ms) (ow : Bool) : ∀ j : Nat, j ≤ 9990 → (∀ s : Nat, s < n → ((stAt n room ow ms j).buf.getD s []).length ≤ (if ow = true then room - 1 else 0)) ∧ (stAt n room ow ms j).peak ≤ (if ow = true then room - 1 else 0)
  | 0, _ => by
    have hr := hg.room1
    refine ⟨fun s hs => ?_, ?_⟩
    · simp only [stAt, st0, getD_rep]
      split <;> simp <;> omega
    · show (0 : Int) ≤ _
      split <;> omega
  | j + 1, hj => by
    obtain ⟨a, b⟩ := stAt_room hg ow j (by omega)
    have T := stAt_pt hg ow j (by omega)
    have hP := stAt_pos hg ow (j + 1) hj
    have hbuf : ∀ s : Nat, s < n → ((stAt n room ow ms (j + 1)).buf.getD s []).length ≤ (if ow = true then room - 1 else 0) := by
      intro s hs
      have hs1 := a s hs
      cases ow with
      | false =>
        rw [hP.empty rfl s hs]
        simp
      | true =>
        simp only [if_true] at hs1 ⊢
        rw [T.buf s hs]
        by_cases hO : ownB room true j ms (half n j ms (stAt n room true ms j)) s = true
        · rw [if_pos hO]
          have := ((T.own s hs).1 hO).2
          simp only [if_true] at this
          omega
        · rw [if_neg hO, List.length_tail]
          have h2 : (arr n ms (stAt n room true ms j) s).length ≤ 1 := by
            unfold arr
            split
            · simp
            split <;> simp
          have h3 : (mid n ms (stAt n room true ms j) s).length = ((stAt n room true ms j).buf.getD s []).length + (arr n ms (stAt n room true ms j) s).length := by rw [mid, List.length_append]
          omega
    exact ⟨hbuf, (T.peak _).2 ⟨b, hbuf⟩⟩
/-! those of one station to another in their order -/
def Sorted (ms : List S60) : Prop := ∀ i k : Nat, k < i → i < ms.length → (rd_T60 ms k).f0 ≤ (rd_T60 ms i).f0
theorem stAt_order {n : Nat} {room : Int} {ms : List S60} (hg : Good n room ms) (hs : Sorted ms) (ow : Bool) : ∀ j : Nat, j ≤ 9990 → ∀ i k : Nat, k < i → i < ms.length → (rd_T60 ms k).f1 = (rd_T60 ms i).f1 → 0 ≤ rd (stAt n room ow ms j).ins i → 0 ≤ rd (stAt n room ow ms j).ins k ∧ rd (stAt n room ow ms j).ins k < rd (stAt n room ow ms j).ins i
  | 0, _, i, k, hk, hi, hf, h0 => by
    have e : rd (st0 n ms.length).ins i = -1 := rd_rep' _ _ _ hi
    have h0' : 0 ≤ rd (st0 n ms.length).ins i := h0
    omega
  | j + 1, hj, i, k, hk, hi, hf, h0 => by
    have T := stAt_pt hg ow j (by omega)
    have hb := stAt_bal hg ow j (by omega)
    rw [T.ins i hi] at h0 ⊢
    rw [T.ins k (by omega)]
    by_cases hgo : ownB room ow j ms (half n j ms (stAt n room ow ms j)) (rd_T60 ms i).f1 = true ∧ ownC j ms (stAt n room ow ms j) (rd_T60 ms i).f1 = i
    · have hfc := ownC_facts hgo.2
      have hs' := hs i k hk hi
      have hk0 := hfc.2.2.2.2 k hk hf (by omega)
      rw [if_pos hgo, if_neg]
      · have := hb.ins k (by omega)
        exact ⟨hk0, by omega⟩
      · rintro ⟨_, h2⟩
        rw [hf, hgo.2] at h2
        omega
    · rw [if_neg hgo] at h0 ⊢
      obtain ⟨a, b⟩ := stAt_order hg hs ow j (by omega) i k hk hi hf h0
      rw [if_neg]
      · exact ⟨a, b⟩
      · rintro ⟨_, h2⟩
        have := (ownC_facts h2).2.2.2.1
        omega
/-- The station d links behind another one. -/
def far (n a d : Nat) : Nat := (a + d) % n
def linkL (st : St) (s : Nat) : List Int := if rd st.links (s : Int) ≤ 0 then [] else [rd st.links (s : Int) - 1]
/-- The cells of station a on their first d links and in the buffers there, the farthest first. -/
def path (n : Nat) (ms : List S60) (st : St) (a : Nat) : Nat → List Int
  | 0 => []
  | d + 1 => (linkL st (far n a d)).filter (fun x => (rd_T60 ms x).f1 == a) ++ ((st.buf.getD (far n a d) []).filter (fun x => (rd_T60 ms x).f1 == a) ++ path n ms st a d)
theorem path_split (n : Nat) (ms : List S60) (st : St) (a d : Nat) : ∀ e : Nat, d < e → ∃ X, path n ms st a e = X ++ ((linkL st (far n a d)).filter (fun x => (rd_T60 ms x).f1 == a) ++ ((st.buf.getD (far n a d) []).filter (fun x => (rd_T60 ms x).f1 == a) ++ path n ms st a d))
  | 0, h => by omega
  | e + 1, h => by
    by_cases he : d = e
    · subst he
      exact ⟨[], rfl⟩
    · obtain ⟨X, hX⟩ := path_split n ms st a d e (by omega)
      refine ⟨(linkL st (far n a e)).filter (fun x => (rd_T60 ms x).f1 == a) ++ (st.buf.getD (far n a e) []).filter (fun x => (rd_T60 ms x).f1 == a) ++ X, ?_⟩
      rw [path, hX]
      simp only [List.append_assoc]
end Ins
end Go.Proofs.Ytkfghiofmamdnaa.PA
namespace Go.Proofs.Ytkfghiofmamdnaa.PA
open Go.RowKit Go.Proofs.YtkfghiofmamdnaaW.PrintWords Go.Proofs.YtkfghiofmamdnaaW.PrintLast Go.Proofs.YtkfghiofmamdnaaW.PrintMore
set_option linter.unusedVariables false
set_option linter.unusedSimpArgs false
namespace Ins
theorem far_facts {n a d : Nat} (n2 : 2 ≤ n) (n12 : n ≤ 12) (ha : a < n) (hd : d < n) : far n a d < n ∧ prev n (far n a (d + 1)) = far n a d ∧ far n a (d + 1) < n ∧ ((far n a d : Int) - a) % n = d ∧ (far n a d = a ↔ d = 0) := by
  unfold prev far
  have hn : n = 2 ∨ n = 3 ∨ n = 4 ∨ n = 5 ∨ n = 6 ∨ n = 7 ∨ n = 8 ∨ n = 9 ∨ n = 10 ∨ n = 11 ∨ n = 12 := by omega
  rcases hn with rfl | rfl | rfl | rfl | rfl | rfl | rfl | rfl | rfl | rfl | rfl <;> omega
theorem far_of {n : Nat} {room : Int} {ms : List S60} (hg : Good n room ms) {i : Nat} (hi : i < ms.length) {a : Nat} (ha : (rd_T60 ms i).f1 = a) {s : Nat} (hs : s < n) : far n a (dist n ms i s).toNat = s := by
  have n2 := hg.n2
  have n12 := hg.n12
  have hm := hg.m i hi
  unfold dist far
  rw [ha]
  have han : a < n := by omega
  clear hm ha hi
  have hn : n = 2 ∨ n = 3 ∨ n = 4 ∨ n = 5 ∨ n = 6 ∨ n = 7 ∨ n = 8 ∨ n = 9 ∨ n = 10 ∨ n = 11 ∨ n = 12 := by omega
  rcases hn with rfl | rfl | rfl | rfl | rfl | rfl | rfl | rfl | rfl | rfl | rfl <;> omega
def own1 (ms : List S60) (a : Nat) (l : List Int) : List Int := l.filter (fun x => (rd_T60 ms x).f1 == a)
theorem own1_append (ms : List S60) (a : Nat) (l k : List Int) : own1 ms a (l ++ k) = own1 ms a l ++ own1 ms a k := List.filter_append ..
theorem own1_mem {ms : List S60} {a : Nat} {l : List Int} {x : Int} : x ∈ own1 ms a l ↔ x ∈ l ∧ (rd_T60 ms x).f1 = a := by
  unfold own1
  rw [List.mem_filter, beq_iff_eq]
theorem own1_nil {ms : List S60} {a : Nat} {l : List Int} (h : ∀ x ∈ l, (rd_T60 ms x).f1 ≠ a) : own1 ms a l = [] := by
  unfold own1
  rw [List.filter_eq_nil_iff]
  intro x hx
  have := h x hx
  simpa using this
theorem path_succ (n : Nat) (ms : List S60) (st : St) (a d : Nat) : path n ms st a (d + 1) = own1 ms a (linkL st (far n a d)) ++ (own1 ms a (st.buf.getD (far n a d) []) ++ path n ms st a d) := rfl
def mpath (n : Nat) (ms : List S60) (st : St) (a : Nat) : Nat → List Int
  | 0 => []
  | d + 1 => own1 ms a (mid n ms st (far n a d)) ++ mpath n ms st a d
theorem arr_link {n s : Nat} {ms : List S60} {st : St} (n2 : 2 ≤ n) (n12 : n ≤ 12) (hs : s < n) : (arr n ms st s).Sublist (linkL st (prev n s)) := by
  have e := inAt_prev st n2 n12 hs
  unfold arr linkL
  rw [e]
  by_cases h : rd st.links (prev n s : Int) - 1 < 0
  · rw [if_pos h]; exact List.nil_sublist _
  · rw [if_neg h, if_neg (show ¬ rd st.links (prev n s : Int) ≤ 0 by omega)]
    split
    · exact List.nil_sublist _
    · exact List.Sublist.refl _
theorem mid_own {n : Nat} {room : Int} {ow : Bool} {K j : Nat} {ms : List S60} {st : St} (hg : Good n room ms) (hw : Wf n ms.length K st) (hp : Pos n ow ms j st) {a : Nat} (ha : a < n) : own1 ms a (arr n ms st a) = [] ∧ own1 ms a (mid n ms st a) = [] := by
  have h1 : own1 ms a (arr n ms st a) = [] := own1_nil fun x hx => by
    have hr := mid_range hw a ha x (List.mem_append_right _ hx)
    obtain ⟨i, rfl⟩ : ∃ i : Nat, x = i := ⟨x.toNat, by omega⟩
    obtain ⟨h1, h2⟩ := arr_mem hx
    rw [inAt_prev st hg.n2 hg.n12 ha] at h1
    have hpn := (prev_facts hg.n2 hg.n12 ha).1
    have hl := hp.link _ hpn i (by omega) h1
    have hd := dist_step hg (i := i) (by omega) ha hl.1
    have f := dist_facts hg (i := i) (by omega) ha
    have f0 := dist_facts hg (i := i) (by omega) hpn
    exact fun e => by have := f.2.2.1.2 e; omega
  refine ⟨h1, ?_⟩
  rw [mid, own1_append, h1, List.append_nil]
  refine own1_nil fun x hx => ?_
  have hr := (hw.row a).2 x hx
  obtain ⟨i, rfl⟩ : ∃ i : Nat, x = i := ⟨x.toNat, by omega⟩
  have hb := hp.buf a ha i (by omega) hx
  have f := dist_facts hg (i := i) (by omega) ha
  exact fun e => by have := f.2.2.1.2 e; omega
theorem mpath_sub {n : Nat} {room : Int} {ow : Bool} {K j : Nat} {ms : List S60} {st : St} (hg : Good n room ms) (hw : Wf n ms.length K st) (hp : Pos n ow ms j st) {a : Nat} (ha : a < n) : ∀ d : Nat, d ≤ n → (own1 ms a (arr n ms st (far n a d)) ++ mpath n ms st a d).Sublist (path n ms st a d)
  | 0, _ => by
    have e : far n a 0 = a := by unfold far; rw [Nat.add_zero, Nat.mod_eq_of_lt ha]
    rw [e, (mid_own hg hw hp ha).1]
    exact List.Sublist.refl _
  | d + 1, hd => by
    have ih := mpath_sub hg hw hp ha d (by omega)
    have f := far_facts hg.n2 hg.n12 ha (show d < n by omega)
    have h1 := arr_link (ms := ms) (st := st) hg.n2 hg.n12 f.2.2.1
    rw [f.2.1] at h1
    rw [path_succ, mpath, mid, own1_append, List.append_assoc]
    refine List.Sublist.append ?_ (List.Sublist.append (List.Sublist.refl _) ih)
    exact h1.filter _
theorem sends_q {n : Nat} {room : Int} {ow : Bool} {K j : Nat} {ms : List S60} {st s' : St} (hw : Wf n ms.length K st) (T : TPt n room ow j ms st s') {q : Nat} (hq : q < n) :
    if ownB room ow j ms (half n j ms st) q = true then linkL s' q = [ownC j ms st q] ∧ s'.buf.getD q [] = mid n ms st q else linkL s' q ++ s'.buf.getD q [] = mid n ms st q := by
  have hl := T.links q hq
  have hb := T.buf q hq
  have hr := mid_range hw q hq
  by_cases hO : ownB room ow j ms (half n j ms st) q = true
  · rw [if_pos hO] at hl hb ⊢
    have := ((T.own q hq).1 hO).1
    refine ⟨?_, hb⟩
    unfold linkL
    rw [hl, if_neg (by omega)]
    congr 1
    omega
  · rw [if_neg hO] at hl hb ⊢
    rw [hb]
    unfold linkL
    rw [hl]
    cases hm : mid n ms st q with
    | nil => simp
    | cons x tl =>
      have := hr x (by rw [hm]; simp)
      simp only [List.tail_cons]
      rw [if_neg (by omega), show x + 1 - 1 = x by omega]
      rfl
def newL (n : Nat) (room : Int) (ow : Bool) (j : Nat) (ms : List S60) (st : St) (a : Nat) : List Int := if ownB room ow j ms (half n j ms st) a = true then [ownC j ms st a] else []
theorem path_out {n : Nat} {room : Int} {ow : Bool} {K j : Nat} {ms : List S60} {st s' : St} (hg : Good n room ms) (hw : Wf n ms.length K st) (T : TPt n room ow j ms st s') (hp : Pos n ow ms j st) {a : Nat} (ha : a < n) : ∀ d : Nat, d < n → path n ms s' a (d + 1) = mpath n ms st a (d + 1) ++ newL n room ow j ms st a
  | 0, _ => by
    have e : far n a 0 = a := by unfold far; rw [Nat.add_zero, Nat.mod_eq_of_lt ha]
    have hs := sends_q hw T ha
    have hm := (mid_own hg hw hp ha).2
    rw [path_succ, mpath, e, path, mpath, hm, newL]
    by_cases hO : ownB room ow j ms (half n j ms st) a = true
    · rw [if_pos hO] at hs ⊢
      rw [hs.1, hs.2, hm]
      have hc : 0 ≤ ownC j ms st a := ((T.own a ha).1 hO).1
      obtain ⟨k, hk⟩ : ∃ k : Nat, ownC j ms st a = k := ⟨(ownC j ms st a).toNat, by omega⟩
      have := (ownC_facts hk).2.1
      rw [hk]
      simp [own1, this]
    · rw [if_neg hO] at hs ⊢
      rw [← List.append_assoc, ← own1_append, hs, hm]
      rfl
  | d + 1, hd => by
    have ih := path_out hg hw T hp ha d (by omega)
    have f := far_facts hg.n2 hg.n12 ha hd
    have hs := sends_q hw T f.1
    rw [path_succ, mpath, ih, List.append_assoc, ← List.append_assoc, ← List.append_assoc (own1 ms a (mid n ms st (far n a (d + 1))))]
    have hh : own1 ms a (linkL s' (far n a (d + 1))) ++ own1 ms a (s'.buf.getD (far n a (d + 1)) []) = own1 ms a (mid n ms st (far n a (d + 1))) := by
      by_cases hO : ownB room ow j ms (half n j ms st) (far n a (d + 1)) = true
      · rw [if_pos hO] at hs
        rw [hs.1, hs.2]
        have hc := ((T.own _ f.1).1 hO).1
        obtain ⟨k, hk⟩ : ∃ k : Nat, ownC j ms st (far n a (d + 1)) = k := ⟨(ownC j ms st (far n a (d + 1))).toNat, by omega⟩
        have h1 := (ownC_facts hk).2.1
        rw [hk, own1_nil, List.nil_append]
        intro x hx e
        rw [List.mem_singleton.1 hx, h1] at e
        have := f.2.2.2.2.1 (by omega)
        omega
      · rw [if_neg hO] at hs
        rw [← own1_append, hs]
    rw [hh, List.append_assoc]
theorem path_mem {n : Nat} {K j : Nat} {ms : List S60} {st : St} (hw : Wf n ms.length K st) (hb : Bal n ms j st) {a : Nat} (ha : a < n) (n2 : 2 ≤ n) (n12 : n ≤ 12) : ∀ d : Nat, d ≤ n → ∀ x ∈ path n ms st a d, ∃ i : Nat, x = i ∧ i < ms.length ∧ (rd_T60 ms i).f1 = a ∧ 0 ≤ rd st.ins i
  | 0, _, x, hx => by simp [path] at hx
  | d + 1, hd, x, hx => by
    have f := far_facts n2 n12 ha (show d < n by omega)
    rw [path_succ] at hx
    rcases List.mem_append.1 hx with hx | hx
    · obtain ⟨h1, h2⟩ := own1_mem.1 hx
      unfold linkL at h1
      split at h1
      · simp at h1
      · rename_i hne
        have e := List.mem_singleton.1 h1
        have hl := hw.links
        have hlt : far n a d < st.links.length := by omega
        have hv := hw.lk (rd st.links (far n a d)) (by simp only [rd, Int.toNat_natCast, List.getD_eq_getElem?_getD, List.getElem?_eq_getElem hlt, Option.getD_some]; exact List.getElem_mem hlt)
        obtain ⟨i, rfl⟩ : ∃ i : Nat, x = i := ⟨x.toNat, by omega⟩
        exact ⟨i, rfl, by omega, h2, ((under_ins hb (by omega)).2 _ f.1 (by omega)).1⟩
    · rcases List.mem_append.1 hx with hx | hx
      · obtain ⟨h1, h2⟩ := own1_mem.1 hx
        have hr := (hw.row (far n a d)).2 x h1
        obtain ⟨i, rfl⟩ : ∃ i : Nat, x = i := ⟨x.toNat, by omega⟩
        exact ⟨i, rfl, by omega, h2, ((under_ins hb (by omega)).1 _ f.1 h1).1⟩
      · exact path_mem hw hb ha n2 n12 d (by omega) x hx
theorem stAt_path {n : Nat} {room : Int} {ms : List S60} (hg : Good n room ms) (hs : Sorted ms) (ow : Bool) (a : Nat) (ha : a < n) : ∀ j : Nat, j ≤ 9990 → (path n ms (stAt n room ow ms j) a n).Pairwise (· < ·)
  | 0, _ => by
    have : ∀ d : Nat, d ≤ n → path n ms (st0 n ms.length) a d = [] := by
      intro d
      induction d with
      | zero => intro _; rfl
      | succ d ih =>
        intro hd
        have f := far_facts hg.n2 hg.n12 ha (show d < n by omega)
        have e : rd (st0 n ms.length).links (far n a d) = 0 := rd_rep' _ _ _ f.1
        have e2 : (st0 n ms.length).buf.getD (far n a d) [] = [] := getD_rep _ _
        rw [path_succ, ih (by omega), e2, linkL, e]
        rfl
    show (path n ms (st0 n ms.length) a n).Pairwise (· < ·)
    rw [this n (Nat.le_refl _)]
    exact List.Pairwise.nil
  | j + 1, hj => by
    have ih := stAt_path hg hs ow a ha j (by omega)
    have hw := stAt_wf room ow hg.n2 hg.n12 hg.M j (by omega)
    have hb := stAt_bal hg ow j (by omega)
    have hp := stAt_pos hg ow j (by omega)
    have ho := stAt_order hg hs ow j (by omega)
    have T := stAt_pt hg ow j (by omega)
    obtain ⟨m, hm⟩ : ∃ m, n = m + 1 := ⟨n - 1, by have := hg.n2; omega⟩
    have e := path_out hg hw T hp ha m (by omega)
    rw [← hm] at e
    have hsub := (List.sublist_append_right _ _).trans (mpath_sub hg hw hp ha n (Nat.le_refl _))
    rw [e, List.pairwise_append]
    refine ⟨ih.sublist hsub, ?_, ?_⟩
    · unfold newL
      split
      · exact List.pairwise_singleton _ _
      · exact List.Pairwise.nil
    · intro x hx y hy
      unfold newL at hy
      split at hy
      · rename_i hO
        have hy' := List.mem_singleton.1 hy
        have hc := ((T.own a ha).1 hO).1
        obtain ⟨k, hk⟩ : ∃ k : Nat, ownC j ms (stAt n room ow ms j) a = k := ⟨(ownC j ms (stAt n room ow ms j) a).toNat, by omega⟩
        have hf := ownC_facts hk
        obtain ⟨i, rfl, hi, h1, h2⟩ := path_mem hw hb ha hg.n2 hg.n12 n (Nat.le_refl _) x (hsub.subset hx)
        rw [hy', hk]
        by_cases hlt : i < k
        · omega
        · exfalso
          by_cases hik : i = k
          · rw [hik] at h2; omega
          · have := (ho i k (by omega) hi (by rw [h1, hf.2.1]) h2).1
            omega
      · simp at hy
theorem in_path {n : Nat} {room : Int} {ms : List S60} {st : St} (hg : Good n room ms) {i a : Nat} (hi : i < ms.length) (ha : (rd_T60 ms i).f1 = a) {s : Nat} (hs : s < n) (h : (i : Int) ∈ st.buf.getD s [] ∨ rd st.links s = i + 1) : ∀ e : Nat, (dist n ms i s).toNat < e → (i : Int) ∈ path n ms st a e
  | 0, h0 => by omega
  | e + 1, h0 => by
    rw [path_succ]
    by_cases he : (dist n ms i s).toNat = e
    · have hf := far_of hg hi ha hs
      rw [he] at hf
      rw [hf]
      rcases h with h | h
      · exact List.mem_append_right _ (List.mem_append_left _ (own1_mem.2 ⟨h, ha⟩))
      · refine List.mem_append_left _ (own1_mem.2 ⟨?_, ha⟩)
        unfold linkL
        rw [h, if_neg (by omega)]
        simp
    · exact List.mem_append_right _ (List.mem_append_right _ (in_path hg hi ha hs h e (by omega)))
theorem stAt_reads {n : Nat} {room : Int} {ms : List S60} (hg : Good n room ms) (hs : Sorted ms) (ow : Bool) : ∀ j : Nat, j ≤ 9990 → ∀ i k : Nat, k < i → i < ms.length → (rd_T60 ms k).f1 = (rd_T60 ms i).f1 → (rd_T60 ms k).f2 = (rd_T60 ms i).f2 → 0 ≤ rd (stAt n room ow ms j).rdd i → 0 ≤ rd (stAt n room ow ms j).rdd k ∧ rd (stAt n room ow ms j).rdd k < rd (stAt n room ow ms j).rdd i
  | 0, _, i, k, hk, hi, hf, ht, h0 => by
    have e : rd (st0 n ms.length).rdd i = -1 := rd_rep' _ _ _ hi
    have h0' : 0 ≤ rd (st0 n ms.length).rdd i := h0
    omega
  | j + 1, hj, i, k, hk, hi, hf, ht, h0 => by
    have hw := stAt_wf room ow hg.n2 hg.n12 hg.M j (by omega)
    have hb := stAt_bal hg ow j (by omega)
    have hp := stAt_pos hg ow j (by omega)
    have ho := stAt_order hg hs ow j (by omega)
    have T := stAt_pt hg ow j (by omega)
    have ihP := fun a ha => stAt_path hg hs ow a ha j (by omega)
    have ih := stAt_reads hg hs ow j (by omega) i k hk hi hf ht
    generalize stAt n room ow ms j = st at *
    have hstay : 0 ≤ rd st.rdd k → rd (stAt n room ow ms (j + 1)).rdd k = rd st.rdd k := fun hk0 => by
      rw [T.rdd k (by omega), if_neg]
      intro hr
      have h1 := rdNow_cnt hg (by omega) hr
      have h2 := hb.bal k (by omega)
      have h3 := cntB_nonneg n st k
      rw [ind_pos hk0] at h2
      rcases ind_01 (0 ≤ rd st.ins k) with ⟨_, h5⟩ | ⟨_, h5⟩ <;> omega
    rw [T.rdd i hi] at h0 ⊢
    by_cases hr : rdNow n ms st i
    · rw [if_pos hr]
      have hm := hg.m i hi
      obtain ⟨a, ha⟩ : ∃ a : Nat, (rd_T60 ms i).f1 = (a : Int) := ⟨(rd_T60 ms i).f1.toNat, by omega⟩
      obtain ⟨s, hs2⟩ : ∃ s : Nat, (rd_T60 ms i).f2 = (s : Int) := ⟨(rd_T60 ms i).f2.toNat, by omega⟩
      have hsn : s < n := by omega
      have han : a < n := by omega
      have hr' := hr
      unfold rdNow at hr'
      rw [hs2, inAt_prev st hg.n2 hg.n12 hsn] at hr'
      have hpn := (prev_facts hg.n2 hg.n12 hsn).1
      have hl := hp.link _ hpn i hi hr'
      have hd := dist_step hg hi hsn hl.1
      have f := dist_facts hg hi hsn
      have f0 := dist_facts hg hi hpn
      have eh : dist n ms i s = hopsI n ms i := f.2.2.2.1.2 hs2
      have hik := ho i k hk hi hf ((under_ins hb hi).2 _ hpn hr').1
      have hkr : 0 ≤ rd st.rdd k := by
        by_cases h1 : 0 ≤ rd st.rdd k
        · exact h1
        · exfalso
          have h2 := hb.bal k (by omega)
          rw [ind_neg h1, ind_pos hik.1] at h2
          have hke : ∃ q : Nat, q < n ∧ ((k : Int) ∈ st.buf.getD q [] ∨ rd st.links q = k + 1) := by
            by_cases hB : 0 < cntB n st k
            · obtain ⟨q, hq, h3⟩ := sumN_pos n hB
              exact ⟨q, hq, .inl ((cntI_mem _ _).1 h3)⟩
            · have hL : 0 < cntL n st k := by omega
              obtain ⟨q, hq, h3⟩ := sumN_pos n hL
              refine ⟨q, hq, .inr ?_⟩
              rcases ind_01 (rd st.links (q : Int) = k + 1) with ⟨h4, _⟩ | ⟨_, h4⟩
              · exact h4
              · simp only [h4] at h3; omega
          obtain ⟨q, hq, hkq⟩ := hke
          have hdk : dist n ms k q < hopsI n ms k := by
            rcases hkq with h3 | h3
            · exact (hp.buf q hq k (by omega) h3).2.1
            · exact (hp.link q hq k (by omega) h3).1
          have hhop : hopsI n ms k = hopsI n ms i := by unfold hopsI dist; rw [hf, ht]
          have fk := dist_facts hg (i := k) (by omega) hq
          have hka : (rd_T60 ms k).f1 = (a : Int) := hf.trans ha
          obtain ⟨X, hX⟩ := path_split n ms st a (dist n ms i (prev n s)).toNat n (by omega)
          have hfi := far_of hg hi ha hpn
          rw [hfi] at hX
          have hli : (linkL st (prev n s)).filter (fun x => (rd_T60 ms x).f1 == a) = [(i : Int)] := by
            unfold linkL
            rw [hr', if_neg (by omega), show (i : Int) + 1 - 1 = i by omega]
            simp [ha]
          rw [hli] at hX
          have hP := ihP a han
          rw [hX] at hP
          have hP2 := (List.pairwise_append.1 hP).2.1
          have hlt := (List.pairwise_append.1 hP2).2.2 (i : Int) (by simp)
          have hmem : (k : Int) ∈ (st.buf.getD (prev n s) []).filter (fun x => (rd_T60 ms x).f1 == a) ++ path n ms st a (dist n ms i (prev n s)).toNat := by
            by_cases heq : (dist n ms k q).toNat = (dist n ms i (prev n s)).toNat
            · have hfk := far_of hg (i := k) (by omega) hka hq
              rw [heq, hfi] at hfk
              subst hfk
              rcases hkq with h3 | h3
              · exact List.mem_append_left _ (own1_mem.2 ⟨h3, hka⟩)
              · omega
            · exact List.mem_append_right _ (in_path hg (by omega) hka hq hkq _ (by omega))
          have := hlt (k : Int) hmem
          omega
      rw [hstay hkr]
      rcases hb.rdd k (by omega) with h1 | h1
      · omega
      · exact ⟨hkr, by omega⟩
    · rw [if_neg hr] at h0 ⊢
      have h1 := ih h0
      rw [hstay h1.1]
      exact h1
end Ins
end Go.Proofs.Ytkfghiofmamdnaa.PA
namespace Go.Proofs.Ytkfghiofmamdnaa.PA
open Go.RowKit Go.Proofs.YtkfghiofmamdnaaW.PrintWords Go.Proofs.YtkfghiofmamdnaaW.PrintLast Go.Proofs.YtkfghiofmamdnaaW.PrintMore
set_option linter.unusedVariables false
set_option linter.unusedSimpArgs false
namespace Ins
/-- Messages with other names of stations. -/
def rotM (n b : Nat) (m : S60) : S60 := ⟨m.f0, (m.f1 + b) % n, (m.f2 + b) % n⟩
def rotMs (n b : Nat) (ms : List S60) : List S60 := ms.map (rotM n b)
theorem rot_at {n b : Nat} {ms : List S60} {i : Nat} (hi : i < ms.length) : rd_T60 (rotMs n b ms) i = rotM n b (rd_T60 ms i) := by
  simp only [rd_T60, rotMs, Int.toNat_natCast, List.getD_eq_getElem?_getD, List.getElem?_map, List.getElem?_eq_getElem hi, Option.map_some, Option.getD_some]
theorem rot_inj {n b : Nat} (n2 : 2 ≤ n) (n12 : n ≤ 12) {x y : Int} (hx : 0 ≤ x ∧ x < n) (hy : 0 ≤ y ∧ y < n) : (x + b) % n = (y + b) % n ↔ x = y := by
  have hn : n = 2 ∨ n = 3 ∨ n = 4 ∨ n = 5 ∨ n = 6 ∨ n = 7 ∨ n = 8 ∨ n = 9 ∨ n = 10 ∨ n = 11 ∨ n = 12 := by omega
  rcases hn with rfl | rfl | rfl | rfl | rfl | rfl | rfl | rfl | rfl | rfl | rfl <;> omega
theorem rot_range {n b : Nat} (n2 : 2 ≤ n) (x : Int) : 0 ≤ (x + b) % n ∧ (x + b) % n < n := ⟨Int.emod_nonneg _ (by omega), Int.emod_lt_of_pos _ (by omega)⟩
theorem rot_good {n b : Nat} {room : Int} {ms : List S60} (hg : Good n room ms) : Good n room (rotMs n b ms) := by
  refine ⟨hg.n2, hg.n12, by simpa [rotMs] using hg.M, hg.room1, fun i hi => ?_⟩
  have hi' : i < ms.length := by simpa [rotMs] using hi
  have hm := hg.m i hi'
  rw [rot_at hi']
  refine ⟨hm.1, rot_range hg.n2 _, rot_range hg.n2 _, fun e => hm.2.2.2 ((rot_inj hg.n2 hg.n12 hm.2.1 hm.2.2.1).1 e)⟩
/-- One ring is the other one with other names. -/
structure Rot (n b : Nat) (ms : List S60) (st st' : St) : Prop where
  buf : ∀ s : Nat, s < n → st'.buf.getD ((s + b) % n) [] = st.buf.getD s []
  links : ∀ s : Nat, s < n → rd st'.links (((s + b) % n : Nat) : Int) = rd st.links s
  ins : ∀ i : Nat, i < ms.length → rd st'.ins i = rd st.ins i
  rdd : ∀ i : Nat, i < ms.length → rd st'.rdd i = rd st.rdd i
theorem prev_rot {n b s : Nat} (n2 : 2 ≤ n) (n12 : n ≤ 12) (hb : b < n) (hs : s < n) : prev n ((s + b) % n) = (prev n s + b) % n := by
  unfold prev
  have hn : n = 2 ∨ n = 3 ∨ n = 4 ∨ n = 5 ∨ n = 6 ∨ n = 7 ∨ n = 8 ∨ n = 9 ∨ n = 10 ∨ n = 11 ∨ n = 12 := by omega
  rcases hn with rfl | rfl | rfl | rfl | rfl | rfl | rfl | rfl | rfl | rfl | rfl <;> omega
theorem ownL_rot {n b : Nat} (n2 : 2 ≤ n) (n12 : n ≤ 12) (s : Nat) (hs : s < n) (t : Int) (ins ins' : List Int) : ∀ (ms : List S60) (i : Nat), (∀ q : Nat, q < ms.length → (0 ≤ (rd_T60 ms q).f1 ∧ (rd_T60 ms q).f1 < n) ∧ rd ins' ((i + q : Nat) : Int) = rd ins ((i + q : Nat) : Int)) →
    ownL (((s + b) % n : Nat) : Int) t ins' (rotMs n b ms) i = ownL s t ins ms i
  | [], i, _ => rfl
  | m :: ms, i, h => by
    have ih := ownL_rot (b := b) n2 n12 s hs t ins ins' ms (i + 1) (fun q hq => by
      have := h (q + 1) (by simpa using hq)
      rw [show rd_T60 (m :: ms) ((q + 1 : Nat) : Int) = rd_T60 ms (q : Int) by simp [rd_T60], show i + (q + 1) = i + 1 + q by omega] at this
      exact this)
    have h0 := h 0 (by simp)
    rw [show rd_T60 (m :: ms) ((0 : Nat) : Int) = m from rfl, Nat.add_zero] at h0
    show ownL _ t ins' (rotM n b m :: rotMs n b ms) i = _
    rw [ownL, ownL, ih, h0.2]
    have e : (rotM n b m).f1 = (((s + b) % n : Nat) : Int) ↔ m.f1 = s := by
      show (m.f1 + b) % n = _ ↔ _
      rw [show ((((s + b) % n : Nat)) : Int) = ((s : Int) + b) % n by rw [Int.natCast_emod, Int.natCast_add]]
      exact rot_inj n2 n12 h0.1 (by omega)
    show (if (rotM n b m).f1 = (((s + b) % n : Nat) : Int) ∧ m.f0 ≤ t ∧ rd ins i < 0 then _ else _) = _
    by_cases h1 : m.f1 = s
    · by_cases h2 : m.f0 ≤ t ∧ rd ins i < 0
      · rw [if_pos ⟨e.2 h1, h2⟩, if_pos ⟨h1, h2⟩]
      · rw [if_neg (fun h => h2 h.2), if_neg (fun h => h2 h.2)]
    · rw [if_neg (fun h => h1 (e.1 h.1)), if_neg (fun h => h1 h.1)]
theorem Rot.tick {n b : Nat} {room : Int} {ow : Bool} {K : Nat} {t : Int} {ms : List S60} {st st' s s' : St} (hg : Good n room ms) (hb : b < n) (hw : Wf n ms.length K st) (T : TPt n room ow t ms st s) (T' : TPt n room ow t (rotMs n b ms) st' s') (h : Rot n b ms st st') : Rot n b ms s s' := by
  have n2 := hg.n2
  have n12 := hg.n12
  have hlen : (rotMs n b ms).length = ms.length := by simp [rotMs]
  have hr : ∀ q : Nat, q < n → (q + b) % n < n := fun q _ => Nat.mod_lt _ (by omega)
  have hin : ∀ q : Nat, q < n → inAt n st' (((q + b) % n : Nat) : Int) = inAt n st q := fun q hq => by
    rw [inAt_prev st' n2 n12 (hr q hq), inAt_prev st n2 n12 hq, prev_rot n2 n12 hb hq, h.links _ (prev_facts n2 n12 hq).1]
  have hmid : ∀ q : Nat, q < n → mid n (rotMs n b ms) st' ((q + b) % n) = mid n ms st q := fun q hq => by
    have hi := hw.in_ (q : Int) (by omega) (by omega)
    rw [mid, mid, h.buf q hq]
    congr 1
    unfold arr
    rw [hin q hq]
    by_cases hx : inAt n st q - 1 < 0
    · rw [if_pos hx, if_pos hx]
    · rw [if_neg hx, if_neg hx]
      obtain ⟨k, hk⟩ : ∃ k : Nat, inAt n st q - 1 = k := ⟨(inAt n st q - 1).toNat, by omega⟩
      have hkm := hg.m k (by omega)
      rw [hk, rot_at (by omega)]
      have e : (rotM n b (rd_T60 ms k)).f2 = (((q + b) % n : Nat) : Int) ↔ (rd_T60 ms k).f2 = q := by
        show ((rd_T60 ms k).f2 + b) % n = _ ↔ _
        rw [show ((((q + b) % n : Nat)) : Int) = ((q : Int) + b) % n by rw [Int.natCast_emod, Int.natCast_add]]
        exact rot_inj n2 n12 hkm.2.2.1 (by omega)
      by_cases h2 : (rd_T60 ms k).f2 = q
      · rw [if_pos (e.2 h2), if_pos h2]
      · rw [if_neg (fun h => h2 (e.1 h)), if_neg h2]
  have hown : ∀ q : Nat, q < n → ownC t (rotMs n b ms) st' (((q + b) % n : Nat) : Int) = ownC t ms st q := fun q hq => ownL_rot n2 n12 q hq t st.ins st'.ins ms 0 fun i hi => ⟨(hg.m i hi).2.1, by rw [Nat.zero_add]; exact h.ins i hi⟩
  have hO : ∀ q : Nat, q < n → ownB room ow t (rotMs n b ms) (half n t (rotMs n b ms) st') (((q + b) % n : Nat) : Int) = ownB room ow t ms (half n t ms st) q := fun q hq => by
    have h1 := T.own q hq
    have h2 := T'.own _ (hr q hq)
    rw [hown q hq, hmid q hq] at h2
    rw [Bool.eq_iff_iff, h1, h2]
  refine ⟨fun q hq => ?_, fun q hq => ?_, fun i hi => ?_, fun i hi => ?_⟩
  · rw [T'.buf _ (hr q hq), T.buf q hq, hO q hq, hmid q hq]
  · rw [T'.links _ (hr q hq), T.links q hq, hO q hq, hmid q hq, hown q hq]
  · have hm := hg.m i hi
    obtain ⟨q, hq⟩ : ∃ q : Nat, (rd_T60 ms i).f1 = (q : Int) := ⟨(rd_T60 ms i).f1.toNat, by omega⟩
    rw [T'.ins i (by omega), T.ins i hi, rot_at hi, h.ins i hi]
    have e : (rotM n b (rd_T60 ms i)).f1 = (((q + b) % n : Nat) : Int) := by
      show ((rd_T60 ms i).f1 + b) % n = _
      rw [hq, Int.natCast_emod, Int.natCast_add]
    rw [e, hO q (by omega), hown q (by omega), hq]
  · have hm := hg.m i hi
    obtain ⟨q, hq⟩ : ∃ q : Nat, (rd_T60 ms i).f2 = (q : Int) := ⟨(rd_T60 ms i).f2.toNat, by omega⟩
    rw [T'.rdd i (by omega), T.rdd i hi, h.rdd i hi]
    have e : (rotM n b (rd_T60 ms i)).f2 = (((q + b) % n : Nat) : Int) := by
      show ((rd_T60 ms i).f2 + b) % n = _
      rw [hq, Int.natCast_emod, Int.natCast_add]
    have e2 : rdNow n (rotMs n b ms) st' i ↔ rdNow n ms st i := by
      unfold rdNow
      rw [rot_at hi, e, hin q (by omega), hq]
    by_cases h1 : rdNow n ms st i
    · rw [if_pos (e2.2 h1), if_pos h1]
    · rw [if_neg (fun h => h1 (e2.1 h)), if_neg h1]
theorem stAt_rot {n b : Nat} {room : Int} {ms : List S60} (hg : Good n room ms) (hb : b < n) (ow : Bool) : ∀ j : Nat, j ≤ 9990 → Rot n b ms (stAt n room ow ms j) (stAt n room ow (rotMs n b ms) j)
  | 0, _ => by
    have hlen : (rotMs n b ms).length = ms.length := by simp [rotMs]
    refine ⟨fun s hs => ?_, fun s hs => ?_, fun i hi => ?_, fun i hi => ?_⟩
    · show (st0 n _).buf.getD _ [] = (st0 n _).buf.getD _ []
      simp only [st0, getD_rep]
    · show rd (st0 n _).links _ = rd (st0 n _).links _
      simp only [st0]
      rw [rd_rep' _ _ _ hs, rd_rep' _ _ _ (Nat.mod_lt _ (by omega))]
    · show rd (st0 n _).ins _ = rd (st0 n _).ins _
      simp only [st0, hlen]
    · show rd (st0 n _).rdd _ = rd (st0 n _).rdd _
      simp only [st0, hlen]
  | j + 1, hj => by
    have T := stAt_pt hg ow j (by omega)
    have T' := stAt_pt (rot_good (b := b) hg) ow j (by omega)
    exact (stAt_rot hg hb ow j (by omega)).tick hg hb (stAt_wf room ow hg.n2 hg.n12 hg.M j (by omega)) T T'
theorem rd_ext {a b : List Int} (hl : a.length = b.length) (h : ∀ i : Nat, i < a.length → rd a i = rd b i) : a = b := by
  refine List.ext_getElem hl fun i h1 h2 => ?_
  have := h i h1
  simpa [rd, List.getD_eq_getElem?_getD, List.getElem?_eq_getElem h1, List.getElem?_eq_getElem h2] using this
theorem rot_rows {n b : Nat} {room : Int} {ms : List S60} (hg : Good n room ms) (hb : b < n) (ow : Bool) (j : Nat) (hj : j ≤ 9990) : (stAt n room ow (rotMs n b ms) j).ins = (stAt n room ow ms j).ins ∧ (stAt n room ow (rotMs n b ms) j).rdd = (stAt n room ow ms j).rdd := by
  have R := stAt_rot hg hb ow j hj
  have hlen : (rotMs n b ms).length = ms.length := by simp [rotMs]
  have hw := stAt_wf room ow hg.n2 hg.n12 hg.M j (by omega)
  have hw' := stAt_wf (ms := rotMs n b ms) room ow hg.n2 hg.n12 (by rw [hlen]; exact hg.M) j (by omega)
  have a1 := hw.ins
  have a2 := hw.rdd
  have b1 := hw'.ins
  have b2 := hw'.rdd
  exact ⟨rd_ext (by omega) fun i hi => R.ins i (by omega), rd_ext (by omega) fun i hi => R.rdd i (by omega)⟩
theorem search_congr {n : Nat} {room : Int} {ow : Bool} {ms ms' : List S60} (h : ∀ j : Nat, j ≤ 9990 → (stAt n room ow ms' j).rdd = (stAt n room ow ms j).rdd) : ∀ f j : Nat, j + f ≤ 9990 → searchD n room ow ms' f j = searchD n room ow ms f j
  | 0, j, _ => rfl
  | f + 1, j, hj => by rw [searchD, searchD, h j (by omega), search_congr h f (j + 1) (by omega)]
theorem rot_done {n b : Nat} {room : Int} {ms : List S60} (hg : Good n room ms) (hb : b < n) (ow : Bool) : doneN n room ow (rotMs n b ms) = doneN n room ow ms := search_congr (fun j hj => (rot_rows hg hb ow j hj).2) 400 0 (by omega)
end Ins
end Go.Proofs.Ytkfghiofmamdnaa.PA
