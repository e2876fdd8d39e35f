/- Token rings: visits of both programs; no condition but that it is a ring with calls. -/
import Derived.Test.YtdblfocadcgmaaaW7M3
set_option linter.unusedVariables false
set_option linter.unusedSimpArgs false
namespace Go.Proofs.Ytdblfocadcgmaaa.Ev.W7
open Go
set_option linter.unusedSimpArgs false
set_option linter.unusedVariables false

/-! #### a row of one number repeated -/
theorem mul_small : ∀ m : Nat, m < 21 → bits_Mul (IntKind.wrap .u64 1) (IntKind.wrap .u64 (m : Int)) = some (0, (m : Int)) := by decide +kernel

theorem spl_rep {xs : List Int} {v : Int} {p L : Nat} (hl : xs.length = L) (hp : p ≤ L) (h : xs.take p = List.replicate p v) :
    (spl xs p (List.take (L - p) (List.replicate p v))).length = L ∧ (spl xs p (List.take (L - p) (List.replicate p v))).take (p + min p (L - p)) = List.replicate (p + min p (L - p)) v := by
  have e : List.take (L - p) (List.replicate p v) = List.replicate (min p (L - p)) v := by rw [List.take_replicate, Nat.min_comm]
  rw [e]
  refine ⟨?_, ?_⟩
  · rw [spl_length (by simp; omega)]; exact hl
  · unfold spl
    rw [h, ← List.append_assoc, List.replicate_append_replicate, List.take_left' (by simp)]

theorem repeat_ok (v : Int) {L : Nat} (hL : L ≤ 20) : slices_Repeat [v] (L : Int) = some (List.replicate L v) := by
  have hm := mul_small L (by omega)
  unfold slices_Repeat
  rw [if_neg (by simp)]
  have e1 : ((List.length [v] : Nat) : Int) = 1 := rfl
  rw [e1, hm, Option.bind_some]
  dsimp only
  rw [if_neg (by simp), show decide ((L : Int) > 9223372036854775807) = false by simp; omega]
  unfold slices_Repeat_j1
  dsimp only
  have e2 : w64 (L : Int) = (L : Int) := w64_id (by omega) (by omega)
  have e3 : Int.toNat (L : Int) = L := rfl
  rw [if_neg (by simp), e2, mk_ok (by omega) (by omega) (by omega), Option.bind_some, e3, List.length_replicate]
  have e4 : (spl (List.replicate L (0 : Int)) 0 (List.take L [v])).length = L ∧ (spl (List.replicate L (0 : Int)) 0 (List.take L [v])).take (min 1 L) = List.replicate (min 1 L) v := by
    cases L with
    | zero => simp [spl]
    | succ m => simp [spl, List.replicate_succ]
  have key := iter_ex (step := slices_Repeat_s2) (fun m s => ∃ (xs : List Int) (p : Nat), s = (xs, (p : Int)) ∧ xs.length = L ∧ p ≤ L ∧ (0 < L → 1 ≤ p) ∧ xs.take p = List.replicate p v ∧ m = L - p) (fun r => r = List.replicate L v) (by
    rintro m s ⟨xs, p, rfl, h1, h2, h3, h4, rfl⟩
    unfold slices_Repeat_s2
    dsimp only
    rw [h1]
    by_cases hp : p < L
    · right
      have ep : Int.toNat (p : Int) = p := rfl
      rw [if_pos (by simpa using hp), sub_ok (by omega) (by omega) (by omega), Option.bind_some, sub_ok (by omega) (by omega) (by omega), Option.bind_some, Option.bind_some]
      rw [e3, ep, show Int.toNat (0 : Int) = 0 from rfl, List.drop_zero, Nat.sub_zero, h4, List.length_replicate]
      obtain ⟨q1, q2⟩ := spl_rep h1 h2 h4
      refine ⟨_, L - (p + min p (L - p)), by have := h3 (by omega); omega, rfl, _, p + min p (L - p), ?_, q1, by omega, by omega, q2, rfl⟩
      rw [w64_id (by omega) (by omega)]
      rfl
    · left
      obtain rfl : p = L := by omega
      rw [if_neg (by simp)]
      refine ⟨_, rfl, ?_⟩
      rw [← h4, ← h1, List.take_length]) (L - min 1 L) (spl (List.replicate L (0 : Int)) 0 (List.take L [v]), ((min 1 L : Nat) : Int)) ⟨_, min 1 L, rfl, e4.1, by omega, by omega, e4.2, rfl⟩
  obtain ⟨r, h1, rfl⟩ := key
  unfold slices_Repeat_l2
  have e5 : min (List.length [v]) L = min 1 L := rfl
  rw [e5, h1]
  rfl

/-! #### lists told by a function -/
def lst {α : Type} (F : Nat → α) (n : Nat) : List α := (List.range n).map F
theorem lst_len {α : Type} (F : Nat → α) (n : Nat) : (lst F n).length = n := by simp [lst]
theorem lst_get {α : Type} (F : Nat → α) {n i : Nat} (h : i < n) : (lst F n)[i]? = some (F i) := by simp [lst, h]
theorem lst_succ {α : Type} (F : Nat → α) (n : Nat) : lst F (n + 1) = lst F n ++ [F n] := by simp [lst, List.range_succ]
theorem lst_congr {α : Type} {F G : Nat → α} {n : Nat} (h : ∀ j, j < n → F j = G j) : lst F n = lst G n := List.map_congr_left fun j hj => h j (List.mem_range.1 hj)
theorem lst_set {α : Type} {F G : Nat → α} {n i : Nat} {x : α} (h1 : G i = x) (h2 : ∀ j, j < n → j ≠ i → G j = F j) : (lst F n).set i x = lst G n := by
  apply List.ext_getElem?
  intro j
  rw [List.getElem?_set]
  by_cases hj : j < n
  · rw [lst_get G hj, lst_get F hj, lst_len]
    by_cases hij : i = j
    · subst hij; rw [if_pos rfl, if_pos hj, h1]
    · rw [if_neg hij, h2 j hj (by omega)]
  · rw [List.getElem?_eq_none (by rw [lst_len]; omega), List.getElem?_eq_none (by rw [lst_len]; omega), lst_len]
    split <;> first | rfl | (rw [if_neg hj]; done) | (rename_i hij; subst hij; rw [if_neg hj])
theorem lst_const {α : Type} (v : α) (n : Nat) : lst (fun _ => v) n = List.replicate n v := by
  apply List.ext_getElem?
  intro j
  by_cases hj : j < n
  · rw [lst_get _ hj, List.getElem?_replicate, if_pos hj]
  · rw [List.getElem?_eq_none (by rw [lst_len]; omega), List.getElem?_replicate, if_neg hj]

def ov : Option Nat → Int
  | none => -1
  | some t => t
theorem ov_none {o : Option Nat} (h : ov o < 0) : o = none := by
  cases o with
  | none => rfl
  | some t => simp [ov] at h; omega

namespace Tk
variable {g : Tk} {cs : List Call}
structure Fits (g : Tk) (cs : List Call) : Prop where
  len : cs.length = g.L
  get : ∀ i, i < g.L → cs[i]? = some ((g.tk i : Int), (g.fr i : Int), (g.to i : Int))

def stL (g : Tk) (k : Nat) : List Int := lst (fun j => ov (g.fl k j)) g.L
def md (g : Tk) (k i : Nat) : List Int := lst (fun j => ov (if j < i then g.fl (k + 1) j else g.fl k j)) g.L
def mn (g : Tk) (k i : Nat) : Nat := min (cnt (g.du k) i) g.H
theorem md_zero (k : Nat) : g.md k 0 = g.stL k := by unfold md stL; exact lst_congr fun j _ => by rw [if_neg (by omega)]
theorem md_end (k : Nat) : g.md k g.L = g.stL (k + 1) := by unfold md stL; exact lst_congr fun j hj => by rw [if_pos hj]
theorem md_at {k i : Nat} (hi : i < g.L) : at? (g.md k i) (i : Int) = some (ov (g.fl k i)) := by
  rw [at_eq]; unfold md; rw [lst_get _ hi, if_neg (by omega)]
theorem md_keep {k i : Nat} (h : g.fl (k + 1) i = g.fl k i) : g.md k (i + 1) = g.md k i := by
  unfold md
  apply lst_congr
  intro j _
  by_cases h1 : j = i
  · subst h1; rw [if_pos (by omega), if_neg (by omega), h]
  · by_cases h2 : j < i
    · rw [if_pos (by omega), if_pos h2]
    · rw [if_neg (by omega), if_neg h2]
theorem md_set {k i : Nat} {x : Int} (h : ov (g.fl (k + 1) i) = x) : (g.md k i).set i x = g.md k (i + 1) := by
  unfold md
  refine lst_set (by rw [if_pos (by omega)]; exact h) fun j _ hj => ?_
  by_cases h2 : j < i
  · rw [if_pos (by omega), if_pos h2]
  · rw [if_neg (by omega), if_neg h2]
theorem keep_no {k i : Nat} (h : g.du k i = false) : g.md k (i + 1) = g.md k i ∧ g.mn k (i + 1) = g.mn k i := by
  refine ⟨md_keep (by rw [fl_succ, h]; simp), ?_⟩
  unfold mn; rw [cnt_no h]
theorem keep_full {k i : Nat} (h : ¬ g.mn k i < g.H) : g.md k (i + 1) = g.md k i ∧ g.mn k (i + 1) = g.mn k i := by
  unfold mn at h
  have hc : ¬ cnt (g.du k) i < g.H := by omega
  have := cnt_mono (p := g.du k) (show i ≤ i + 1 by omega)
  refine ⟨md_keep (by rw [fl_succ]; simp [hc]), ?_⟩
  unfold mn; omega
theorem sends {k i : Nat} (h : g.du k i = true) (hn : g.mn k i < g.H) : g.fl (k + 1) i = some (g.cm k + g.mn k i) ∧ g.mn k (i + 1) = g.mn k i + 1 := by
  unfold mn at hn ⊢
  have hc : cnt (g.du k) i < g.H := by omega
  refine ⟨by rw [fl_succ, h]; simp [hc]; omega, ?_⟩
  rw [cnt_yes h]; omega
theorem mn_le (k i : Nat) : g.mn k i ≤ g.H := Nat.min_le_right _ _
theorem mn_zero (k : Nat) : g.mn k 0 = 0 := by unfold mn; rw [cnt_zero]; omega

/-! #### the first program -/
def stI (g : Tk) (cs : List Call) (k : Nat) : Int × Int × Int × List Call × Int × Int × List Int := ((g.S : Int), (g.H : Int), (g.W : Int), cs, (g.cm k : Int), ((k % g.S : Nat) : Int), g.stL k)

theorem impl_visit_loop (o : g.Ok) (hf : Fits g cs) {k : Nat} (hk : k ≤ 50000) : impl_walker_visit_l1 (g.stI cs k) (g.stL k, 0, 0) = some (g.stL (k + 1), (g.sn k : Int)) := by
  have hL := o.L20
  have hH := o.H10
  have hc20 := cm_20 o k
  have key := iter_to (step := impl_walker_visit_s1 (g.stI cs k)) (fun i => (g.md k i, (g.mn k i : Int), (i : Int))) g.L (r := (g.md k g.L, (g.mn k g.L : Int))) (by
    intro i hi
    have hmn := mn_le (g := g) k i
    have j2 : ∀ l n, impl_walker_visit_j2 (i : Int) (l, n) = some (.inl (l, n, ((i + 1 : Nat) : Int))) := fun l n => by
      simp [impl_walker_visit_j2, w64_nat1 (show i ≤ 4611686018427387904 by omega)]
    have j3f : ∀ l n, impl_walker_visit_j3 (g.stI cs k) l n (i : Int) false = some (.inl (l, n, ((i + 1 : Nat) : Int))) := fun l n => by
      unfold impl_walker_visit_j3; rw [if_neg (by simp), j2]
    unfold impl_walker_visit_s1
    dsimp only
    have e1 : (g.stI cs k).2.2.2.1 = cs := rfl
    have e2 : (g.stI cs k).2.2.2.2.2.1 = ((k % g.S : Nat) : Int) := rfl
    have e3 : (g.stI cs k).2.2.2.2.1 = (g.cm k : Int) := rfl
    have e4 : (g.stI cs k).2.1 = (g.H : Int) := rfl
    rw [e1, e2, e3, e4, if_pos (by rw [hf.len]; simpa using hi), at_eq, hf.get i hi, Option.bind_some]
    dsimp only
    by_cases h1 : g.fr i = k % g.S
    · rw [if_pos (by rw [beq_iff_eq]; exact congrArg _ h1)]
      by_cases h2 : g.tk i ≤ g.cm k
      · rw [if_pos (by simpa using h2), md_at hi, Option.bind_some]
        by_cases h3 : ov (g.fl k i) < 0
        · have hdu : g.du k i = true := by rw [du_eq, ov_none h3]; simp [h1, h2]
          rw [if_pos (by simpa using h3)]
          by_cases h4 : g.mn k i < g.H
          · obtain ⟨q1, q2⟩ := sends hdu h4
            rw [show decide ((g.mn k i : Int) < (g.H : Int)) = true by simpa using h4]
            unfold impl_walker_visit_j3
            rw [if_pos rfl, md_at hi, Option.bind_some, j2, e3, w64_id (by omega) (by omega), w64_nat1 (by omega), q2]
            have e5 : Int.toNat (i : Int) = i := rfl
            rw [e5, md_set (by rw [q1]; rfl)]
          · obtain ⟨q1, q2⟩ := keep_full h4
            rw [show decide ((g.mn k i : Int) < (g.H : Int)) = false by simpa using h4, j3f, q1, q2]
        · have hdu : g.du k i = false := by
            rw [du_eq]
            cases hx : g.fl k i with
            | none => rw [hx] at h3; simp [ov] at h3
            | some t => simp
          obtain ⟨q1, q2⟩ := keep_no hdu
          rw [if_neg (by simpa using h3), j3f, q1, q2]
      · obtain ⟨q1, q2⟩ := keep_no (show g.du k i = false by rw [du_eq]; simp [h2])
        rw [if_neg (by simpa using h2), j3f, q1, q2]
    · obtain ⟨q1, q2⟩ := keep_no (show g.du k i = false by rw [du_eq]; simp [h1])
      rw [if_neg (by rw [beq_iff_eq]; omega), j3f, q1, q2]) (by
    unfold impl_walker_visit_s1
    dsimp only
    have e1 : (g.stI cs k).2.2.2.1 = cs := rfl
    rw [e1, if_neg (by rw [hf.len]; simp)])
  rw [md_zero, mn_zero, md_end] at key
  exact key

theorem tmod_nat (a b : Nat) : Int.tmod (a : Int) (b : Int) = ((a % b : Nat) : Int) := rfl
theorem impl_visit_ok (o : g.Ok) (hf : Fits g cs) {k : Nat} (hk : k ≤ 50000) : impl_walker_visit (g.stI cs k) = some ([(g.cm k : Int), ((k % g.S : Nat) : Int), (g.sn k : Int)], g.stI cs (k + 1)) := by
  have hS : 0 < g.S := by have := o.S2; omega
  have hS2 := o.S12
  have hm := Nat.mod_lt k hS
  have hH := o.H10
  have hW := o.W10
  have hc20 := cm_20 o k
  have hsn := sn_le (g := g) k
  have key := impl_visit_loop o hf hk
  unfold impl_walker_visit
  have e0 : (g.stI cs k).2.2.2.2.2.2 = g.stL k := rfl
  rw [e0, key, Option.bind_some]
  dsimp only
  have e1 : (g.stI cs k).1 = (g.S : Int) := rfl
  have e2 : (g.stI cs k).2.2.2.2.2.1 = ((k % g.S : Nat) : Int) := rfl
  have e3 : (g.stI cs k).2.2.2.2.1 = (g.cm k : Int) := rfl
  have e5 : (g.stI cs k).2.2.1 = (g.W : Int) := rfl
  rw [e1, e2, e3, e5, nz_ok (by omega), Option.bind_some, w64_nat1 (by omega), tmod_nat, Nat.mod_add_mod, w64_id (x := (g.sn k : Int) + g.W) (by omega) (by omega), w64_id (by omega) (by omega)]
  have e6 : (g.cm k : Int) + ((g.sn k : Int) + g.W) = (g.cm (k + 1) : Int) := by rw [cm_succ]; omega
  rw [e6]
  rfl

theorem impl_new_ok (o : g.Ok) (hf : Fits g cs) : impl_newWalker ((g.S : Int), (g.H : Int), (g.W : Int)) cs = some (g.stI cs 0) := by
  have hL := o.L20
  unfold impl_newWalker
  rw [hf.len, repeat_ok _ hL, Option.bind_some]
  have e : g.stL 0 = List.replicate g.L (-1) := by
    unfold stL; rw [← lst_const]; exact lst_congr fun j _ => rfl
  unfold stI
  rw [e, cm_zero, Nat.zero_mod]
  rfl

/-! #### the second program -/
def vis (g : Tk) (k : Nat) : List (List Int) := lst (fun j => [(g.cm j : Int), ((j % g.S : Nat) : Int), (g.sn j : Int)]) k
def stS (g : Tk) (cs : List Call) (k : Nat) : Int × Int × Int × List Call × List Int × List (List Int) × Int := ((g.S : Int), (g.H : Int), (g.W : Int), cs, g.stL k, g.vis k, (g.cm k : Int))

theorem spec_visit_loop (o : g.Ok) (hf : Fits g cs) {k : Nat} (hk : k ≤ 50000) : spec_tkRun_visit_l1 (g.stS cs k) (g.stL k, 0, 0) = some (g.stL (k + 1), (g.sn k : Int)) := by
  have hL := o.L20
  have hH := o.H10
  have hc20 := cm_20 o k
  have key := iter_to (step := spec_tkRun_visit_s1 (g.stS cs k)) (fun i => (g.md k i, (g.mn k i : Int), (i : Int))) g.L (r := (g.md k g.L, (g.mn k g.L : Int))) (by
    intro i hi
    have hmn := mn_le (g := g) k i
    have j2 : ∀ l n, spec_tkRun_visit_j2 (i : Int) (l, n) = some (.inl (l, n, ((i + 1 : Nat) : Int))) := fun l n => by
      simp [spec_tkRun_visit_j2, w64_nat1 (show i ≤ 4611686018427387904 by omega)]
    have j3f : ∀ l n, spec_tkRun_visit_j3 (g.stS cs k) l n (i : Int) false = some (.inl (l, n, ((i + 1 : Nat) : Int))) := fun l n => by
      unfold spec_tkRun_visit_j3; rw [if_neg (by simp), j2]
    unfold spec_tkRun_visit_s1
    dsimp only
    have e1 : (g.stS cs k).2.2.2.1 = cs := rfl
    have e2 : Int.tmod (List.length (g.stS cs k).2.2.2.2.2.1 : Int) (g.stS cs k).1 = ((k % g.S : Nat) : Int) := by
      have : (List.length (g.stS cs k).2.2.2.2.2.1) = k := lst_len _ _
      rw [this]; rfl
    have e3 : (g.stS cs k).2.2.2.2.2.2 = (g.cm k : Int) := rfl
    have e4 : (g.stS cs k).2.1 = (g.H : Int) := rfl
    rw [e1, e2, e3, e4, if_pos (by rw [hf.len]; simpa using hi), at_eq, hf.get i hi, Option.bind_some]
    dsimp only
    by_cases h1 : g.fr i = k % g.S
    · rw [if_pos (by rw [beq_iff_eq]; exact congrArg _ h1), md_at hi, Option.bind_some]
      by_cases h3 : ov (g.fl k i) < 0
      · rw [if_pos (by simpa using h3)]
        by_cases h2 : g.tk i ≤ g.cm k
        · have hdu : g.du k i = true := by rw [du_eq, ov_none h3]; simp [h1, h2]
          rw [if_pos (by simpa using h2)]
          by_cases h4 : g.mn k i < g.H
          · obtain ⟨q1, q2⟩ := sends hdu h4
            rw [show decide ((g.mn k i : Int) < (g.H : Int)) = true by simpa using h4]
            unfold spec_tkRun_visit_j3
            rw [if_pos rfl, md_at hi, Option.bind_some, j2, e3, w64_id (by omega) (by omega), w64_nat1 (by omega), q2]
            have e5 : Int.toNat (i : Int) = i := rfl
            rw [e5, md_set (by rw [q1]; rfl)]
          · obtain ⟨q1, q2⟩ := keep_full h4
            rw [show decide ((g.mn k i : Int) < (g.H : Int)) = false by simpa using h4, j3f, q1, q2]
        · obtain ⟨q1, q2⟩ := keep_no (show g.du k i = false by rw [du_eq]; simp [h2])
          rw [if_neg (by simpa using h2), j3f, q1, q2]
      · have hdu : g.du k i = false := by
          rw [du_eq]
          cases hx : g.fl k i with
          | none => rw [hx] at h3; simp [ov] at h3
          | some t => simp
        obtain ⟨q1, q2⟩ := keep_no hdu
        rw [if_neg (by simpa using h3), j3f, q1, q2]
    · obtain ⟨q1, q2⟩ := keep_no (show g.du k i = false by rw [du_eq]; simp [h1])
      rw [if_neg (by rw [beq_iff_eq]; omega), j3f, q1, q2]) (by
    unfold spec_tkRun_visit_s1
    dsimp only
    have e1 : (g.stS cs k).2.2.2.1 = cs := rfl
    rw [e1, if_neg (by rw [hf.len]; simp)])
  rw [md_zero, mn_zero, md_end] at key
  exact key

theorem spec_visit_ok (o : g.Ok) (hf : Fits g cs) {k : Nat} (hk : k ≤ 50000) : spec_tkRun_visit (g.stS cs k) = some (g.stS cs (k + 1)) := by
  have hS : 0 < g.S := by have := o.S2; omega
  have hH := o.H10
  have hW := o.W10
  have hc20 := cm_20 o k
  have hsn := sn_le (g := g) k
  have key := spec_visit_loop o hf hk
  unfold spec_tkRun_visit
  have e0 : (g.stS cs k).2.2.2.2.1 = g.stL k := rfl
  have e1 : (g.stS cs k).1 = (g.S : Int) := rfl
  have e2 : (g.stS cs k).2.2.2.2.2.1 = g.vis k := rfl
  have e3 : (g.stS cs k).2.2.2.2.2.2 = (g.cm k : Int) := rfl
  have e5 : (g.stS cs k).2.2.1 = (g.W : Int) := rfl
  have e7 : (g.vis k).length = k := lst_len _ _
  rw [e0, e1, nz_ok (by omega), Option.bind_some, key, Option.bind_some]
  dsimp only
  rw [e2, e3, e5, app_ok (by rw [e7]; simp; omega), Option.bind_some, e7, tmod_nat, w64_id (x := (g.cm k : Int) + g.sn k) (by omega) (by omega), w64_id (by omega) (by omega)]
  have e6 : (g.cm k : Int) + (g.sn k : Int) + g.W = (g.cm (k + 1) : Int) := by rw [cm_succ]; omega
  have e8 : g.vis k ++ [[(g.cm k : Int), ((k % g.S : Nat) : Int), (g.sn k : Int)]] = g.vis (k + 1) := (lst_succ _ _).symm
  rw [e6, e8]
  rfl

theorem spec_start_ok (o : g.Ok) (hf : Fits g cs) : spec_tkStart ((g.S : Int), (g.H : Int), (g.W : Int)) cs = some (g.stS cs 0) := by
  have hL := o.L20
  have key := iter_to (step := spec_tkStart_s1 cs) (fun i => (lst (fun _ => (-1 : Int)) i, (i : Int))) g.L (r := lst (fun _ => (-1 : Int)) g.L) (by
    intro i hi
    unfold spec_tkStart_s1
    dsimp only
    rw [if_pos (by rw [hf.len]; simpa using hi), app_ok (by rw [lst_len]; simp; omega), Option.bind_some, w64_nat1 (by omega), lst_succ]) (by
    unfold spec_tkStart_s1
    dsimp only
    rw [if_neg (by rw [hf.len]; simp)])
  unfold spec_tkStart spec_tkStart_l1
  have e0 : ((0 : Nat) : Int) = 0 := rfl
  have e1 : lst (fun _ => (-1 : Int)) 0 = [] := rfl
  rw [e0, e1] at key
  rw [key, Option.bind_some]
  rfl
end Tk
end Go.Proofs.Ytdblfocadcgmaaa.Ev.W7
