/- What a tick of an insertion ring leaves is of its size; no condition but what each theorem names. -/
import Derived.Test.YtkfghiofmamdnaaInPure
namespace Go.Proofs.Ytkfghiofmamdnaa.PA
open Go.RowKit Go.Proofs.YtkfghiofmamdnaaW.PrintWords Go.Proofs.YtkfghiofmamdnaaW.PrintLast Go.Proofs.YtkfghiofmamdnaaW.PrintMore
set_option linter.unusedVariables false
set_option linter.unusedSimpArgs false
namespace Ins
def gets (n t : Int) (ms : List S60) (st : St) : Nat → St
  | 0 => st
  | j + 1 => get1 n t ms (gets n t ms st j) j
def sends (room : Int) (ow : Bool) (t : Int) (ms : List S60) (st : St) : Nat → St
  | 0 => st
  | j + 1 => send1 room ow t ms (sends room ow t ms st j) j
/-- A tick. -/
def tick1 (n room : Int) (ow : Bool) (t : Int) (ms : List S60) (st : St) : St := sends room ow t ms (gets n t ms st n.toNat) n.toNat
theorem ownL_range (s t : Int) (ins : List Int) : ∀ (ms : List S60) (i : Nat), ownL s t ins ms i = -1 ∨ (i : Int) ≤ ownL s t ins ms i ∧ ownL s t ins ms i < i + ms.length
  | [], i => .inl rfl
  | m :: ms, i => by
    rw [ownL]
    split
    · exact .inr ⟨by omega, by simp; omega⟩
    · rcases ownL_range s t ins ms (i + 1) with h | h
      · exact .inl h
      · exact .inr ⟨by omega, by simp; omega⟩
theorem ownC_range (t : Int) (ms : List S60) (st : St) (s : Int) : ownC t ms st s = -1 ∨ 0 ≤ ownC t ms st s ∧ ownC t ms st s < ms.length := by
  have := ownL_range s t st.ins ms 0
  unfold ownC
  omega
theorem Wf.up {n : Int} {M K K' : Nat} {st : St} (h : Wf n M K st) (hK : K ≤ K') (hK1 : K' ≤ 1000000) : Wf n M K' st :=
  ⟨h.n0, h.n1, h.M1, hK1, h.buf, h.links, h.ins, h.rdd, h.idle, h.lk, fun b hb => ⟨by have := (h.bk b hb).1; omega, (h.bk b hb).2⟩, by have := h.pk; omega, fun x hx => by have := h.ik x hx; omega⟩
theorem mem_set {α : Type} {l : List α} {i : Nat} {a x : α} (h : x ∈ l.set i a) : x ∈ l ∨ x = a := List.mem_or_eq_of_mem_set h
theorem getD_mem {α : Type} {l : List (List α)} {i : Nat} {x : α} (h : x ∈ l.getD i []) : ∃ b ∈ l, b = l.getD i [] ∧ x ∈ b := by
  by_cases hi : i < l.length
  · refine ⟨l[i], List.getElem_mem hi, ?_, ?_⟩
    · simp [List.getD_eq_getElem?_getD, List.getElem?_eq_getElem hi]
    · simpa [List.getD_eq_getElem?_getD, List.getElem?_eq_getElem hi] using h
  · rw [List.getD_eq_getElem?_getD, List.getElem?_eq_none (by omega)] at h
    simp at h
theorem Wf.row {n : Int} {M K : Nat} {st : St} (h : Wf n M K st) (i : Nat) : (st.buf.getD i []).length ≤ K ∧ ∀ x ∈ st.buf.getD i [], 0 ≤ x ∧ x < M := by
  by_cases hi : i < st.buf.length
  · have e : st.buf.getD i [] = st.buf[i] := by simp [List.getD_eq_getElem?_getD, List.getElem?_eq_getElem hi]
    rw [e]
    exact h.bk _ (List.getElem_mem hi)
  · rw [List.getD_eq_getElem?_getD, List.getElem?_eq_none (by omega)]
    exact ⟨by simp, by simp⟩
theorem Wf.get {n : Int} {M K : Nat} {st : St} (h : Wf n M K st) (hK : K + 1 ≤ 1000000) (t : Int) (ms : List S60) (own : Int) (h0 : 0 ≤ own) (h1 : own < n) : Wf n M (K + 1) (get1 n t ms st own) := by
  have hin := h.in_ own h0 h1
  have hu := h.up (K' := K + 1) (by omega) hK
  unfold get1
  split
  · exact hu
  split
  · exact { hu with rdd := by simpa using h.rdd }
  · refine { hu with buf := by simpa using h.buf, bk := fun b hb => ?_ }
    have hr := h.row own.toNat
    rcases mem_set hb with hb | rfl
    · exact hu.bk b hb
    · refine ⟨by rw [List.length_append, List.length_singleton]; omega, fun x hx => ?_⟩
      rcases List.mem_append.1 hx with hx | hx
      · exact hr.2 x hx
      · rw [List.mem_singleton.1 hx]
        omega
theorem sent_range {n : Int} {K : Nat} {st : St} {ms : List S60} (h : Wf n ms.length K st) (room : Int) (ow : Bool) (t own : Int) : 0 ≤ sent room ow t ms st own ∧ sent room ow t ms st own ≤ ms.length := by
  unfold sent
  split
  · rename_i hO
    simp only [ownB, Bool.and_eq_true, decide_eq_true_eq] at hO
    have := ownC_range t ms st own
    omega
  · have hr := h.row own.toNat
    cases hb : st.buf.getD own.toNat [] with
    | nil => simp
    | cons x l =>
      have := hr.2 x (by rw [hb]; simp)
      simp only
      omega
theorem Wf.sendS {n : Int} {K : Nat} {st : St} {ms : List S60} (h : Wf n ms.length K st) (room : Int) (ow : Bool) (t own : Int) : Wf n ms.length K (sendS room ow t ms st own) := by
  unfold Ins.sendS
  split
  · exact { h with ins := by simpa using h.ins }
  · refine { h with buf := by simpa using h.buf, bk := fun b hb => ?_ }
    have hr := h.row own.toNat
    rcases mem_set hb with hb | rfl
    · exact h.bk b hb
    · exact ⟨by rw [List.length_tail]; omega, fun x hx => hr.2 x (List.mem_of_mem_tail hx)⟩
theorem Wf.send {n : Int} {K : Nat} {st : St} {ms : List S60} (h : Wf n ms.length K st) (hK : K + 1 ≤ 1000000) (room : Int) (ow : Bool) (t own : Int) : Wf n ms.length (K + 1) (send1 room ow t ms st own) := by
  have hs := (h.sendS room ow t own).up (K' := K + 1) (by omega) hK
  have hrow := (h.sendS room ow t own).row own.toNat
  have hsr := sent_range h room ow t own
  refine { n0 := h.n0, n1 := h.n1, M1 := h.M1, K1 := hK, buf := hs.buf, links := by simpa [send1] using h.links, ins := hs.ins, rdd := h.rdd, idle := ?_, lk := fun x hx => ?_, bk := hs.bk, pk := ?_, ik := fun x hx => ?_ }
  · simp only [send1]
    split
    · simpa using h.idle
    · exact h.idle
  · rcases mem_set hx with hx | rfl
    · exact h.lk x hx
    · exact hsr
  · have := h.pk
    simp only [send1, mx]
    omega
  · simp only [send1] at hx
    split at hx
    · rcases mem_set hx with hx | rfl
      · have := h.ik x hx; omega
      · have hh : 0 ≤ rd st.idle own ∧ rd st.idle own ≤ K := by
          unfold rd
          by_cases hi : own.toNat < st.idle.length
          · rw [List.getD_eq_getElem?_getD, List.getElem?_eq_getElem hi]
            exact h.ik _ (List.getElem_mem hi)
          · rw [List.getD_eq_getElem?_getD, List.getElem?_eq_none (by omega)]
            simp
        omega
    · have := h.ik x hx; omega
theorem Wf.gets {n : Int} {M K : Nat} {st : St} (h : Wf n M K st) (hK : K + 12 ≤ 1000000) (t : Int) (ms : List S60) : ∀ j : Nat, (j : Int) ≤ n → Wf n M (K + j) (gets n t ms st j)
  | 0, _ => h
  | j + 1, hj => (Wf.gets h hK t ms j (by omega)).get (by have := h.n1; omega) t ms j (by omega) (by omega)
theorem Wf.sends {n : Int} {K : Nat} {st : St} {ms : List S60} (h : Wf n ms.length K st) (hK : K + 12 ≤ 1000000) (room : Int) (ow : Bool) (t : Int) : ∀ j : Nat, (j : Int) ≤ n → Wf n ms.length (K + j) (sends room ow t ms st j)
  | 0, _ => h
  | j + 1, hj => (Wf.sends h hK room ow t j (by omega)).send (by have := h.n1; omega) room ow t j
theorem Wf.tick {n : Int} {K : Nat} {st : St} {ms : List S60} (h : Wf n ms.length K st) (hK : K + 24 ≤ 1000000) (room : Int) (ow : Bool) (t : Int) : Wf n ms.length (K + 24) (tick1 n room ow t ms st) := by
  have h0 := h.n0
  have h1 := h.n1
  have hg := h.gets (by omega) t ms n.toNat (by omega)
  exact ((hg.up (K' := K + 12) (by omega) (by omega)).sends (by omega) room ow t n.toNat (by omega)).up (by omega) hK
end Ins
end Go.Proofs.Ytkfghiofmamdnaa.PA
