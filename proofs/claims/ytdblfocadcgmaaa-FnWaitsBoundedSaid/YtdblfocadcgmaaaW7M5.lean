/- Token rings: what both programs answer of when frames begin; no condition but lengths. -/
import Derived.Test.YtdblfocadcgmaaaW7M4
set_option linter.unusedVariables false
set_option linter.unusedSimpArgs false
namespace Go.Proofs.Ytdblfocadcgmaaa.Ev.W7
open Go
set_option linter.unusedSimpArgs false
set_option linter.unusedVariables false

/-- Calls and their ring, as plain numbers. -/
def tkOf (r : Int × Int × Int) (ms : List Call) : Tk := ⟨r.1.toNat, r.2.1.toNat, r.2.2.toNat, ms.length, fun i => (ms.getD i (0, 0, 0)).1.toNat, fun i => (ms.getD i (0, 0, 0)).2.1.toNat, fun i => (ms.getD i (0, 0, 0)).2.2.toNat⟩

theorem getD_at {ms : List Call} {i : Nat} (h : i < ms.length) : ms[i]? = some (ms.getD i (0, 0, 0)) := by
  rw [List.getD_eq_getElem?_getD, List.getElem?_eq_getElem h]; rfl

theorem tk_ok {r : Int × Int × Int} {ms : List Call} (h : calledB r ms = true) : (tkOf r ms).Ok ∧ Tk.Fits (tkOf r ms) ms ∧ r = (((tkOf r ms).S : Int), ((tkOf r ms).H : Int), ((tkOf r ms).W : Int)) := by
  simp only [calledB, ringB, Bool.and_eq_true, decide_eq_true_eq, inB_iff] at h
  obtain ⟨⟨⟨h1, h2⟩, ⟨g1, g2⟩, ⟨g3, g4⟩⟩, h3, h4⟩ := h
  have hw : w64 (r.1 - 1) = r.1 - 1 := w64_id (by omega) (by omega)
  have hx : ∀ i, i < ms.length → okAt r.1 ms (ms.getD i (0, 0, 0)) i = true := by
    intro i hi
    unfold allOk at h3
    rw [List.all_eq_true] at h3
    exact h3 i (List.mem_range.2 hi)
  have hy : ∀ i, i < ms.length → (0 ≤ (ms.getD i (0, 0, 0)).1 ∧ (ms.getD i (0, 0, 0)).1 ≤ 1000) ∧ (0 ≤ (ms.getD i (0, 0, 0)).2.1 ∧ (ms.getD i (0, 0, 0)).2.1 ≤ r.1 - 1) ∧ (0 ≤ (ms.getD i (0, 0, 0)).2.2 ∧ (ms.getD i (0, 0, 0)).2.2 ≤ r.1 - 1) ∧ (0 < i → (ms.getD (i - 1) (0, 0, 0)).1 ≤ (ms.getD i (0, 0, 0)).1) := by
    intro i hi
    have := hx i hi
    simp only [okAt, callB, aftB, Bool.and_eq_true, inB_iff, decide_eq_true_eq, hw] at this
    obtain ⟨⟨a, b, c⟩, e⟩ := this
    refine ⟨a, b, c, fun h0 => ?_⟩
    rw [if_pos h0] at e
    simpa using e
  refine ⟨⟨?_, ?_, ?_, ?_, ?_, ?_, h4, ?_, ?_, ?_, ?_⟩, ⟨rfl, ?_⟩, ?_⟩
  · show 2 ≤ r.1.toNat; omega
  · show r.1.toNat ≤ 12; omega
  · show 1 ≤ r.2.1.toNat; omega
  · show r.2.1.toNat ≤ 10; omega
  · show 1 ≤ r.2.2.toNat; omega
  · show r.2.2.toNat ≤ 10; omega
  · intro i hi; have := hy i hi; show (ms.getD i (0, 0, 0)).1.toNat ≤ 1000; omega
  · intro i hi; have := hy i hi; show (ms.getD i (0, 0, 0)).2.1.toNat < r.1.toNat; omega
  · intro i hi; have := hy i hi; show (ms.getD i (0, 0, 0)).2.2.toNat < r.1.toNat; omega
  · intro i j hij hj
    induction hij with
    | refl => exact Nat.le_refl _
    | step hij ih =>
      rename_i m
      have h5 := ih (Nat.lt_of_succ_lt hj)
      have h6 := (hy (m + 1) hj).2.2.2 (by omega)
      have h7 : (ms.getD m (0, 0, 0)).1.toNat ≤ (ms.getD (m + 1) (0, 0, 0)).1.toNat := by
        rw [Nat.add_sub_cancel] at h6; omega
      exact Nat.le_trans h5 h7
  · intro i hi
    have := hy i hi
    rw [getD_at hi]
    show some (ms.getD i (0, 0, 0)) = some (((ms.getD i (0, 0, 0)).1.toNat : Int), ((ms.getD i (0, 0, 0)).2.1.toNat : Int), ((ms.getD i (0, 0, 0)).2.2.toNat : Int))
    congr 1
    rw [Prod.ext_iff, Prod.ext_iff]
    dsimp only
    omega
  · rw [Prod.ext_iff, Prod.ext_iff]
    refine ⟨?_, ?_, ?_⟩
    · show r.1 = ((r.1.toNat : Nat) : Int); omega
    · show r.2.1 = ((r.2.1.toNat : Nat) : Int); omega
    · show r.2.2 = ((r.2.2.toNat : Nat) : Int); omega

theorem called_of {g : Tk} {ms : List Call} (o : g.Ok) (hm : Tk.Fits g ms) : calledB ((g.S : Int), (g.H : Int), (g.W : Int)) ms = true := by
  have h1 := o.S2
  have h2 := o.S12
  have := o.H1
  have := o.H10
  have := o.W1
  have := o.W10
  have hw : w64 ((g.S : Int) - 1) = (g.S : Int) - 1 := w64_id (by omega) (by omega)
  have hx : ∀ i m, ms[i]? = some m → okAt (g.S : Int) ms m i = true := by
    intro i m hi
    have hil : i < g.L := by
      obtain ⟨h, _⟩ := List.getElem?_eq_some_iff.1 hi
      rw [hm.len] at h
      exact h
    have hg := hm.get i hil
    rw [hi] at hg
    obtain rfl := by simpa using hg
    have h3 := o.tk i hil
    have h4 := o.fr i hil
    have h5 := o.to i hil
    simp only [okAt, callB, aftB, Bool.and_eq_true, inB_iff, decide_eq_true_eq, hw]
    refine ⟨⟨by omega, by omega, by omega⟩, ?_⟩
    split
    · rw [List.getD_eq_getElem?_getD, hm.get (i - 1) (by omega)]
      have := o.inc (i - 1) i (by omega) hil
      simp
      omega
    · rfl
  simp only [calledB, ringB, Bool.and_eq_true, decide_eq_true_eq, inB_iff]
  exact ⟨⟨by omega, by omega, by omega⟩, allOk_true hx, by rw [hm.len]; exact o.L20⟩

/-! #### does a list hold a number? -/
theorem contains_eq (l : List Int) (v : Int) (hl : l.length ≤ 1000000) : slices_Contains l v = some (decide (v ∈ l)) := by
  have h := iter_find (step := slices_Index_s1 l v) l (fun i => (i : Int)) (fun x _ => v == x) (fun i => .inr (i : Int)) (.inl ())
    (fun i x hi hx hp => by simp only [slices_Index_s1, at_eq, hx, Option.bind_some, hp]; simp [hi, w64_nat1 (show i ≤ 4611686018427387904 by omega)])
    (fun i x hi hx hp => by simp only [slices_Index_s1, at_eq, hx, Option.bind_some, hp]; simp [hi])
    (by simp [slices_Index_s1])
  have e0 : ((0 : Nat) : Int) = 0 := rfl
  rw [e0] at h
  unfold slices_Contains slices_Index slices_Index_l1
  rcases h with ⟨i, x, h1, h2, h3, h4, h5⟩ | ⟨h1, h2⟩
  · have hx : v = x := by simpa using h3
    subst hx
    have hm := List.mem_of_getElem? h2
    rw [h5]
    simp [hm]
  · have hm : v ∉ l := by
      intro hm
      obtain ⟨i, hi⟩ := List.getElem?_of_mem hm
      have := h1 i v hi
      simp at this
    rw [h2]
    simp [hm]
theorem has_eq (l : List Int) (v : Int) (hl : l.length ≤ 1000000) : spec_l1Has l v = some (decide (v ∈ l)) := by
  have h := iter_find (step := spec_l1Has_s1 l v) l (fun i => (i : Int)) (fun x _ => x == v) (fun i => .inr true) (.inl ())
    (fun i x hi hx hp => by simp only [spec_l1Has_s1, at_eq, hx, Option.bind_some, hp]; simp [hi, w64_nat1 (show i ≤ 4611686018427387904 by omega)])
    (fun i x hi hx hp => by simp only [spec_l1Has_s1, at_eq, hx, Option.bind_some, hp]; simp [hi])
    (by simp [spec_l1Has_s1])
  have e0 : ((0 : Nat) : Int) = 0 := rfl
  rw [e0] at h
  unfold spec_l1Has spec_l1Has_l1
  rcases h with ⟨i, x, h1, h2, h3, h4, h5⟩ | ⟨h1, h2⟩
  · have hx : x = v := by simpa using h3
    subst hx
    have hm := List.mem_of_getElem? h2
    rw [h5]
    simp [hm]
  · have hm : v ∉ l := by
      intro hm
      obtain ⟨i, hi⟩ := List.getElem?_of_mem hm
      have := h1 i v hi
      simp at this
    rw [h2]
    simp [hm]

/-- The greatest number of a row, at least 0. -/
def mx (F : Nat → Int) : Nat → Int
  | 0 => 0
  | n + 1 => if F n > mx F n then F n else mx F n
theorem mx_nn (F : Nat → Int) (n : Nat) : 0 ≤ mx F n := by
  induction n with
  | zero => exact Int.le_refl _
  | succ n ih => unfold mx; split <;> omega
theorem mx_ge {F : Nat → Int} {n i : Nat} (h : i < n) : F i ≤ mx F n := by
  induction n with
  | zero => omega
  | succ n ih =>
    unfold mx
    rcases Nat.lt_or_ge i n with h1 | h1
    · have := ih h1; split <;> omega
    · have : i = n := by omega
      subst this; split <;> omega
theorem most_eq (a b : Int) : spec_l1Most a b = some (if b > a then b else a) := by
  unfold spec_l1Most
  by_cases h : a > b
  · rw [if_pos (by simpa using h), if_neg (by omega)]
  · rw [if_neg (by simpa using h)]
    split
    · rfl
    · congr 1; omega

namespace Tk
variable {g : Tk} {cs : List Call}

def ftL (g : Tk) : List Int := lst (fun i => (g.ft i : Int)) g.L
theorem ftL_len : g.ftL.length = g.L := lst_len _ _
theorem ftL_at {i : Nat} (hi : i < g.L) : at? g.ftL (i : Int) = some (g.ft i : Int) := by rw [at_eq]; exact lst_get _ hi
theorem st_has (k : Nat) : (-1 : Int) ∈ g.stL k ↔ ∃ i, i < g.L ∧ g.fl k i = none := by
  unfold stL lst
  rw [List.mem_map]
  constructor
  · rintro ⟨i, h1, h2⟩
    exact ⟨i, List.mem_range.1 h1, ov_none (by omega)⟩
  · rintro ⟨i, h1, h2⟩
    exact ⟨i, List.mem_range.2 h1, by rw [h2]; rfl⟩
/-- The visit ahead of which all frames have begun. -/
theorem all_in (o : g.Ok) : ∃ K, K ≤ 8000 ∧ (-1 : Int) ∉ g.stL K ∧ (∀ j, j < K → (-1 : Int) ∈ g.stL j) ∧ g.stL K = g.ftL := by
  obtain ⟨K, h1, h2, h3⟩ := least (fun k => (-1 : Int) ∉ g.stL k) 8000 (by
    intro h
    obtain ⟨i, h1, h2⟩ := (st_has _).1 h
    rw [ft_fl o h1] at h2; cases h2)
  refine ⟨K, h1, h2, fun j hj => Classical.not_not.1 (h3 j hj), ?_⟩
  unfold stL ftL
  apply lst_congr
  intro j hj
  cases hf : g.fl K j with
  | none => exact absurd ((st_has K).2 ⟨j, hj, hf⟩) h2
  | some t => rw [ft_of h1 hf]; rfl

theorem impl_starts_ok (o : g.Ok) (hf : Fits g cs) : impl_starts ((g.S : Int), (g.H : Int), (g.W : Int)) cs = some g.ftL := by
  obtain ⟨K, hK, h1, h2, h3⟩ := all_in o
  have hL := o.L20
  have hl : ∀ k, (g.stL k).length ≤ 1000000 := fun k => by unfold stL; rw [lst_len]; omega
  have key := iter_to (step := impl_starts_s1) (fun k => g.stI cs k) K (r := g.stI cs K) (by
    intro k hk
    have := impl_visit_ok o hf (k := k) (by omega)
    unfold stI at this ⊢
    unfold impl_starts_s1
    dsimp only
    rw [contains_eq _ _ (hl k), Option.bind_some, if_pos (by simpa using h2 k hk), this]
    rfl) (by
    unfold stI impl_starts_s1
    dsimp only
    rw [contains_eq _ _ (hl K), Option.bind_some, if_neg (by simpa using h1)])
  unfold impl_starts impl_starts_l1
  rw [impl_new_ok o hf, Option.bind_some]
  unfold stI at key ⊢
  dsimp only at key ⊢
  rw [key]
  exact congrArg some h3

theorem spec_sent_ok (o : g.Ok) (hf : Fits g cs) : spec_tkSent ((g.S : Int), (g.H : Int), (g.W : Int)) cs = some g.ftL := by
  obtain ⟨K, hK, h1, h2, h3⟩ := all_in o
  have hL := o.L20
  have hl : ∀ k, (g.stL k).length ≤ 1000000 := fun k => by unfold stL; rw [lst_len]; omega
  have key := iter_to (step := spec_tkRun_all_s1) (fun k => ((g.S : Int), (g.H : Int), (g.W : Int), cs, g.stL k, g.vis k, (g.cm k : Int), (k : Int))) K (r := g.stS cs K) (by
    intro k hk
    have := spec_visit_ok o hf (k := k) (by omega)
    unfold stS at this
    unfold spec_tkRun_all_s1
    dsimp only
    rw [if_pos (by simp; omega), has_eq _ _ (hl k), Option.bind_some, show decide ((-1 : Int) ∈ g.stL k) = true by simpa using h2 k hk]
    unfold spec_tkRun_all_j2
    rw [if_pos rfl, this, Option.bind_some, w64_nat1 (by omega)]) (by
    unfold stS spec_tkRun_all_s1
    dsimp only
    rw [if_pos (by simp; omega), has_eq _ _ (hl K), Option.bind_some, show decide ((-1 : Int) ∈ g.stL K) = false by simpa using h1]
    unfold spec_tkRun_all_j2
    rw [if_neg (by simp)])
  unfold spec_tkSent spec_tkRun_all spec_tkRun_all_l1
  rw [spec_start_ok o hf, Option.bind_some]
  unfold stS at key ⊢
  dsimp only at key ⊢
  have e0 : ((0 : Nat) : Int) = 0 := rfl
  rw [e0] at key
  rw [cm_zero, e0] at key ⊢
  rw [key]
  exact congrArg some h3

theorem sent_ok (o : g.Ok) (hf : Fits g cs) : impl_SentAt ((g.S : Int), (g.H : Int), (g.W : Int)) cs = some (g.ftL, true) := by
  have hL := o.L20
  unfold impl_SentAt
  rw [called_eq _ _ (by rw [hf.len]; omega), called_of o hf, Option.bind_some, if_neg (by simp), impl_starts_ok o hf]
  rfl

/-! #### the longest wait, and the rest -/
def lw (g : Tk) : Int := mx (fun i => (g.ft i : Int) - g.tk i) g.L
def rest (g : Tk) : Int := mx (fun i => (g.ft i : Int) + 1) g.L
theorem impl_wait_ok (o : g.Ok) (hf : Fits g cs) : impl_LongestWait ((g.S : Int), (g.H : Int), (g.W : Int)) cs = some (g.lw, true) := by
  have hL := o.L20
  have key := iter_to (step := impl_LongestWait_s1 cs (g.ftL, true)) (fun i => (mx (fun i => (g.ft i : Int) - g.tk i) i, (i : Int))) g.L (r := g.lw) (by
    intro i hi
    have h1 := ft_lt o hi
    have h2 := o.tk i hi
    unfold impl_LongestWait_s1
    dsimp only
    rw [if_pos (by rw [ftL_len]; simpa using hi), ftL_at hi, Option.bind_some, at_eq, hf.get i hi, Option.bind_some]
    dsimp only
    rw [w64_nat1 (by omega), w64_id (x := (g.ft i : Int) - g.tk i) (by omega) (by omega)]
    rfl) (by
    unfold impl_LongestWait_s1
    dsimp only
    rw [if_neg (by rw [ftL_len]; simp)]
    rfl)
  unfold impl_LongestWait impl_LongestWait_l1
  rw [sent_ok o hf, Option.bind_some]
  have e0 : ((0 : Nat) : Int) = 0 := rfl
  rw [e0] at key
  have key' : iter (impl_LongestWait_s1 cs (g.ftL, true)) ((0 : Int), (0 : Int)) = some g.lw := key
  rw [key']
  rfl
theorem spec_wait_ok (o : g.Ok) (hf : Fits g cs) : spec_LongestWait ((g.S : Int), (g.H : Int), (g.W : Int)) cs = some (g.lw, true) := by
  have hL := o.L20
  have key := iter_to (step := spec_LongestWait_s1 cs g.ftL) (fun i => (mx (fun i => (g.ft i : Int) - g.tk i) i, (i : Int))) g.L (r := g.lw) (by
    intro i hi
    have h1 := ft_lt o hi
    have h2 := o.tk i hi
    unfold spec_LongestWait_s1
    dsimp only
    rw [if_pos (by rw [ftL_len]; simpa using hi), ftL_at hi, Option.bind_some, at_eq, hf.get i hi, Option.bind_some]
    dsimp only
    rw [w64_nat1 (by omega), w64_id (x := (g.ft i : Int) - g.tk i) (by omega) (by omega), most_eq, Option.bind_some]
    rfl) (by
    unfold spec_LongestWait_s1
    dsimp only
    rw [if_neg (by rw [ftL_len]; simp)]
    rfl)
  unfold spec_LongestWait spec_LongestWait_l1
  rw [tkCalls_eq _ _ (by rw [hf.len]; omega), called_of o hf, Option.bind_some, if_neg (by simp), spec_sent_ok o hf, Option.bind_some]
  have e0 : ((0 : Nat) : Int) = 0 := rfl
  rw [e0] at key
  have key' : iter (spec_LongestWait_s1 cs g.ftL) ((0 : Int), (0 : Int)) = some g.lw := key
  rw [key']
  rfl

def arL (g : Tk) : List Int := lst (fun i => (g.ft i : Int) + 1) g.L
theorem arrived_ok (o : g.Ok) (hf : Fits g cs) : impl_ArrivedAt ((g.S : Int), (g.H : Int), (g.W : Int)) cs = some (g.arL, true) := by
  have hL := o.L20
  have key := iter_to (step := impl_ArrivedAt_s1 (g.ftL, true)) (fun i => (lst (fun j => if j < i then (g.ft j : Int) + 1 else (g.ft j : Int)) g.L, (i : Int))) g.L (r := g.arL) (by
    intro i hi
    have h1 := ft_lt o hi
    unfold impl_ArrivedAt_s1
    dsimp only
    have e5 : Int.toNat (i : Int) = i := rfl
    rw [if_pos (by rw [ftL_len]; simpa using hi), at_eq, lst_get _ hi, if_neg (by omega), Option.bind_some, e5, w64_nat1 (i := i) (by omega), w64_id (x := (g.ft i : Int) + 1) (by omega) (by omega)]
    rw [lst_set (G := fun j => if j < i + 1 then (g.ft j : Int) + 1 else (g.ft j : Int)) (by rw [if_pos (by omega)])]
    intro j _ hj
    by_cases h2 : j < i
    · rw [if_pos (by omega), if_pos h2]
    · rw [if_neg (by omega), if_neg h2]) (by
    unfold impl_ArrivedAt_s1
    dsimp only
    rw [if_neg (by rw [ftL_len]; simp)]
    congr 2
    exact lst_congr fun j hj => by rw [if_pos hj])
  unfold impl_ArrivedAt impl_ArrivedAt_l1
  rw [sent_ok o hf, Option.bind_some]
  have e0 : ((0 : Nat) : Int) = 0 := rfl
  have e1 : lst (fun j => if j < 0 then (g.ft j : Int) + 1 else (g.ft j : Int)) g.L = g.ftL := lst_congr fun j _ => by rw [if_neg (by omega)]
  rw [e1, e0] at key
  dsimp only
  rw [key]
  rfl
theorem impl_rest_ok (o : g.Ok) (hf : Fits g cs) : impl_RestAt ((g.S : Int), (g.H : Int), (g.W : Int)) cs = some (g.rest, true) := by
  have hL := o.L20
  have key := iter_to (step := impl_RestAt_s1 (g.arL, true)) (fun i => (mx (fun i => (g.ft i : Int) + 1) i, (i : Int))) g.L (r := g.rest) (by
    intro i hi
    have h1 := ft_lt o hi
    unfold impl_RestAt_s1
    dsimp only
    have e1 : g.arL.length = g.L := lst_len _ _
    have e2 : g.arL[i]? = some ((g.ft i : Int) + 1) := lst_get _ hi
    rw [if_pos (by rw [e1]; simpa using hi), at_eq, e2, Option.bind_some, w64_nat1 (by omega)]
    rfl) (by
    unfold impl_RestAt_s1
    dsimp only
    have e1 : g.arL.length = g.L := lst_len _ _
    rw [if_neg (by rw [e1]; simp)]
    rfl)
  unfold impl_RestAt impl_RestAt_l1
  rw [arrived_ok o hf, Option.bind_some]
  have e0 : ((0 : Nat) : Int) = 0 := rfl
  rw [e0] at key
  have key' : iter (impl_RestAt_s1 (g.arL, true)) ((0 : Int), (0 : Int)) = some g.rest := key
  rw [key']
  rfl
theorem spec_rest_ok (o : g.Ok) (hf : Fits g cs) : spec_RestAt ((g.S : Int), (g.H : Int), (g.W : Int)) cs = some (g.rest, true) := by
  have hL := o.L20
  have key := iter_to (step := spec_RestAt_s1 g.ftL) (fun i => (mx (fun i => (g.ft i : Int) + 1) i, (i : Int))) g.L (r := g.rest) (by
    intro i hi
    have h1 := ft_lt o hi
    unfold spec_RestAt_s1
    dsimp only
    rw [if_pos (by rw [ftL_len]; simpa using hi), ftL_at hi, Option.bind_some, w64_nat1 (i := i) (by omega), w64_id (x := (g.ft i : Int) + 1) (by omega) (by omega), most_eq, Option.bind_some]
    rfl) (by
    unfold spec_RestAt_s1
    dsimp only
    rw [if_neg (by rw [ftL_len]; simp)]
    rfl)
  unfold spec_RestAt spec_RestAt_l1
  rw [tkCalls_eq _ _ (by rw [hf.len]; omega), called_of o hf, Option.bind_some, if_neg (by simp), spec_sent_ok o hf, Option.bind_some]
  have e0 : ((0 : Nat) : Int) = 0 := rfl
  rw [e0] at key
  have key' : iter (spec_RestAt_s1 g.ftL) ((0 : Int), (0 : Int)) = some g.rest := key
  rw [key']
  rfl
end Tk
end Go.Proofs.Ytdblfocadcgmaaa.Ev.W7
