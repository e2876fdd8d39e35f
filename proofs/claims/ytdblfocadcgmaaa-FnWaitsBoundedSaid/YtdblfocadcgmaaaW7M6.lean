/- Token rings: bounds, rounds, backlogs, the holder, visits; no condition but lengths. -/
import Derived.Test.YtdblfocadcgmaaaW7M5
set_option linter.unusedVariables false
set_option linter.unusedSimpArgs false
namespace Go.Proofs.Ytdblfocadcgmaaa.Ev.W7
open Go
set_option linter.unusedSimpArgs false
set_option linter.unusedVariables false

theorem ringB_iff {r : Int × Int × Int} (h : ringB r = true) : (2 ≤ r.1 ∧ r.1 ≤ 12) ∧ (1 ≤ r.2.1 ∧ r.2.1 ≤ 10) ∧ 1 ≤ r.2.2 ∧ r.2.2 ≤ 10 := by
  simp only [ringB, Bool.and_eq_true, inB_iff] at h
  exact h
theorem tdiv_nat (a b : Nat) : Int.tdiv (a : Int) (b : Int) = ((a / b : Nat) : Int) := rfl
theorem wait_same (r : Int × Int × Int) (p : Int) : ∃ v, impl_WaitBound r p = some v ∧ spec_WaitBound r p = some v := by
  unfold impl_WaitBound spec_WaitBound
  rw [ring_eq, good_eq, Option.bind_some, Option.bind_some]
  cases h : ringB r with
  | false => exact ⟨_, rfl, rfl⟩
  | true =>
    have hr := ringB_iff h
    rw [if_neg (by simp), if_neg (by simp), within_eq, l1In_eq, Option.bind_some, Option.bind_some]
    cases inB 0 100 p with
    | false => exact ⟨_, rfl, rfl⟩
    | true =>
      unfold impl_WaitBound_j1 spec_WaitBound_j1
      rw [if_neg (by simp), if_neg (by simp), nz_ok (by omega), Option.bind_some]
      exact ⟨_, rfl, rfl⟩
theorem rounds_same (r : Int × Int × Int) : ∃ a b f, impl_LongestRound r = some (a, f) ∧ spec_LongestRound r = some (a, f) ∧ impl_IdleRound r = some (b, f) ∧ spec_IdleRound r = some (b, f) ∧ b ≤ a := by
  unfold impl_LongestRound spec_LongestRound impl_IdleRound spec_IdleRound
  rw [ring_eq, good_eq]
  simp only [Option.bind_some]
  cases h : ringB r with
  | false => exact ⟨0, 0, false, rfl, rfl, rfl, rfl, Int.le_refl _⟩
  | true =>
    obtain ⟨h1, h2, h3⟩ := ringB_iff h
    refine ⟨_, _, _, rfl, rfl, rfl, rfl, ?_⟩
    obtain ⟨S, hS⟩ : ∃ S : Nat, r.1 = S := ⟨r.1.toNat, by omega⟩
    obtain ⟨H, hH⟩ : ∃ H : Nat, r.2.1 = H := ⟨r.2.1.toNat, by omega⟩
    obtain ⟨W, hW⟩ : ∃ W : Nat, r.2.2 = W := ⟨r.2.2.toNat, by omega⟩
    rw [hS, hH, hW]
    have e1 : w64 ((H : Int) + W) = ((H + W : Nat) : Int) := by rw [w64_id (by omega) (by omega)]; omega
    rw [e1, ← Int.natCast_mul, ← Int.natCast_mul]
    have m1 : S * W ≤ S * (H + W) := Nat.mul_le_mul (Nat.le_refl _) (by omega)
    have m2 : S * (H + W) ≤ 12 * 20 := Nat.mul_le_mul (by omega) (by omega)
    rw [w64_id (by omega) (by omega), w64_id (by omega) (by omega)]
    omega

/-! #### sums -/
def psum (F : Nat → Int) : Nat → Int
  | 0 => 0
  | n + 1 => psum F n + F n
theorem psum_congr {F G : Nat → Int} {n : Nat} (h : ∀ j, j < n → F j = G j) : psum F n = psum G n := by
  induction n with
  | zero => rfl
  | succ n ih => unfold psum; rw [ih fun j hj => h j (by omega), h n (by omega)]
theorem psum_bound {F : Nat → Int} {n : Nat} {B : Nat} (h : ∀ j, j < n → 0 ≤ F j ∧ F j ≤ B) : 0 ≤ psum F n ∧ psum F n ≤ ((n * B : Nat) : Int) := by
  induction n with
  | zero => unfold psum; omega
  | succ n ih =>
    have h1 := ih fun j hj => h j (by omega)
    have h2 := h n (by omega)
    unfold psum
    rw [Nat.succ_mul]
    omega
theorem psum_set {F G : Nat → Int} {n i : Nat} (h1 : G i = F i + 1) (h2 : ∀ j, j ≠ i → G j = F j) : psum G n = psum F n + (if i < n then 1 else 0) := by
  induction n with
  | zero => simp [psum]
  | succ n ih =>
    unfold psum
    rw [ih]
    by_cases hi : n = i
    · subst hi; rw [h1, if_neg (by omega), if_pos (by omega)]; omega
    · rw [h2 n hi]
      by_cases h3 : i < n
      · rw [if_pos h3, if_pos (by omega)]; omega
      · rw [if_neg h3, if_neg (by omega)]; omega
theorem psum_zero (n : Nat) : psum (fun _ => 0) n = 0 := by
  induction n with
  | zero => rfl
  | succ n ih => unfold psum; rw [ih]; rfl
theorem zsum_ok (l : List Int) (hl : l.length ≤ 1000) (hb : ∀ x, x ∈ l → 0 ≤ x ∧ x ≤ 1000) : laws_zSum l = some (psum (fun j => l.getD j 0) l.length) := by
  have hg : ∀ j, j < l.length → 0 ≤ l.getD j 0 ∧ l.getD j 0 ≤ ((1000 : Nat) : Int) := by
    intro j hj
    rw [List.getD_eq_getElem?_getD, List.getElem?_eq_getElem hj]
    exact hb _ (List.getElem_mem _)
  have key := iter_to (step := laws_zSum_s1 l) (fun i => (psum (fun j => l.getD j 0) i, (i : Int))) l.length (r := psum (fun j => l.getD j 0) l.length) (by
    intro i hi
    have h1 := psum_bound (F := fun j => l.getD j 0) (n := i) (B := 1000) fun j hj => hg j (by omega)
    have h2 := hg i hi
    have h3 : i * 1000 ≤ 1000 * 1000 := Nat.mul_le_mul (by omega) (Nat.le_refl _)
    unfold laws_zSum_s1
    dsimp only at h1 ⊢
    have e : l[i]? = some (l.getD i 0) := by rw [List.getD_eq_getElem?_getD, List.getElem?_eq_getElem hi]; rfl
    rw [if_pos (by simpa using hi), at_eq, e, Option.bind_some, w64_nat1 (i := i) (by omega), w64_id (by omega) (by omega)]
    rfl) (by
    unfold laws_zSum_s1
    dsimp only
    rw [if_neg (by simp)])
  unfold laws_zSum laws_zSum_l1
  have e0 : ((0 : Nat) : Int) = 0 := rfl
  rw [e0] at key
  have key' : iter (laws_zSum_s1 l) ((0 : Int), (0 : Int)) = some (psum (fun j => l.getD j 0) l.length) := key
  rw [key']
  rfl

namespace Tk
variable {g : Tk} {cs : List Call}
theorem bound_ok (o : g.Ok) {a : Nat} (ha : a ≤ 100) : impl_WaitBound ((g.S : Int), (g.H : Int), (g.W : Int)) (a : Int) = some (((g.R + (a / g.H) * (g.R - g.H) + a : Nat) : Int) - 1, true) := by
  have h1 := o.S2
  have h2 := o.S12
  have h3 := o.H1
  have h4 := o.H10
  have h5 := o.W1
  have h6 := o.W10
  have hR := R_ge o
  have hR2 := R_le o
  have hr : ringB ((g.S : Int), (g.H : Int), (g.W : Int)) = true := by
    simp only [ringB, Bool.and_eq_true, inB_iff]; omega
  unfold impl_WaitBound
  rw [ring_eq, hr, Option.bind_some, if_neg (by simp), within_eq, Option.bind_some, show inB 0 100 (a : Int) = true by rw [inB_iff]; omega]
  unfold impl_WaitBound_j1 impl_TokenRing_longestRound
  dsimp only
  rw [if_neg (by simp), nz_ok (by omega), Option.bind_some, Option.bind_some, Option.bind_some, tdiv_nat]
  have hq : a / g.H ≤ a := Nat.div_le_self _ _
  have hqm : a / g.H * g.H ≤ a := Nat.div_mul_le_self _ _
  generalize a / g.H = q at hq hqm
  have e1 : w64 ((g.H : Int) + g.W) = ((g.H + g.W : Nat) : Int) := by rw [w64_id (by omega) (by omega)]; omega
  have e2 : (g.S : Int) * ((g.H + g.W : Nat) : Int) = (g.R : Int) := (Int.natCast_mul _ _).symm
  have m1 : (q + 1) * g.R ≤ 101 * 240 := Nat.mul_le_mul (by omega) hR2
  have e3 : ((q + 1 : Nat) : Int) * (g.R : Int) = (((q + 1) * g.R : Nat) : Int) := (Int.natCast_mul _ _).symm
  have e4 : (q : Int) * (g.H : Int) = ((q * g.H : Nat) : Int) := (Int.natCast_mul _ _).symm
  have m2 : q * (g.R - g.H) = q * g.R - q * g.H := Nat.mul_sub _ _ _
  have m3 : (q + 1) * g.R = q * g.R + g.R := Nat.succ_mul _ _
  have m4 : q * g.H ≤ q * g.R := Nat.mul_le_mul (Nat.le_refl _) (by omega)
  rw [w64_id (x := (q : Int)) (by omega) (by omega), w64_nat1 (i := q) (by omega), e1, e2, w64_id (x := (g.R : Int)) (by omega) (by omega), e3, w64_id (x := (((q + 1) * g.R : Nat) : Int)) (by omega) (by omega), e4, w64_id (x := ((q * g.H : Nat) : Int)) (by omega) (by omega)]
  rw [w64_id (x := (((q + 1) * g.R : Nat) : Int) + (a : Int)) (by omega) (by omega), w64_id (x := (((q + 1) * g.R : Nat) : Int) + (a : Int) - ((q * g.H : Nat) : Int)) (by omega) (by omega), w64_id (by omega) (by omega)]
  congr 2
  omega

/-! #### backlogs -/
def bq (g : Tk) (t n : Nat) : Bool := decide (g.tk n ≤ t) && decide (t < g.ft n)
def bl (g : Tk) (t : Nat) : Nat → List Int
  | 0 => List.replicate g.S 0
  | n + 1 => if g.bq t n then (bl g t n).set (g.fr n) ((bl g t n).getD (g.fr n) 0 + 1) else bl g t n
theorem bl_succ (t n : Nat) : g.bl t (n + 1) = if g.bq t n then (g.bl t n).set (g.fr n) ((g.bl t n).getD (g.fr n) 0 + 1) else g.bl t n := rfl
theorem bl_len (t n : Nat) : (g.bl t n).length = g.S := by
  induction n with
  | zero => simp [bl]
  | succ n ih => rw [bl_succ]; split <;> simp [ih]
theorem getD_some {l : List Int} {i : Nat} (h : i < l.length) : l[i]? = some (l.getD i 0) := by rw [List.getD_eq_getElem?_getD, List.getElem?_eq_getElem h]; rfl
theorem getD_mem {l : List Int} {i : Nat} (h : i < l.length) : l.getD i 0 ∈ l := by
  rw [List.getD_eq_getElem?_getD, List.getElem?_eq_getElem h]; exact List.getElem_mem _
theorem bl_bound (o : g.Ok) (t : Nat) {n : Nat} (hn : n ≤ g.L) : ∀ x, x ∈ g.bl t n → 0 ≤ x ∧ x ≤ (n : Int) := by
  induction n with
  | zero =>
    intro x hx
    unfold bl at hx
    have := List.eq_of_mem_replicate hx
    omega
  | succ n ih =>
    intro x hx
    have ih := ih (by omega)
    rw [bl_succ] at hx
    split at hx
    · rcases List.mem_or_eq_of_mem_set hx with h | h
      · have := ih x h; omega
      · have := ih _ (getD_mem (l := g.bl t n) (i := g.fr n) (by rw [bl_len]; exact o.fr n (by omega)))
        omega
    · have := ih x hx; omega
theorem bl_sum (o : g.Ok) (t : Nat) {n : Nat} (hn : n ≤ g.L) : psum (fun j => (g.bl t n).getD j 0) g.S = (cnt (g.bq t) n : Int) := by
  induction n with
  | zero =>
    rw [show psum (fun j => (g.bl t 0).getD j 0) g.S = psum (fun _ => 0) g.S from psum_congr fun j hj => by
      unfold bl
      rw [List.getD_eq_getElem?_getD, List.getElem?_replicate, if_pos hj]; rfl, psum_zero]
    rfl
  | succ n ih =>
    have ih := ih (by omega)
    have hfr := o.fr n (by omega)
    cases h : g.bq t n with
    | false =>
      rw [cnt_no h, ← ih]
      exact psum_congr fun j _ => by rw [bl_succ, h]; rfl
    | true =>
      rw [cnt_yes h, psum_set (F := fun j => (g.bl t n).getD j 0) (i := g.fr n), if_pos hfr, ih]
      · omega
      · show (g.bl t (n + 1)).getD (g.fr n) 0 = _
        rw [bl_succ, h, if_pos rfl, List.getD_eq_getElem?_getD, List.getElem?_set, if_pos rfl, if_pos (by rw [bl_len]; exact hfr)]
        rfl
      · intro j hj
        show (g.bl t (n + 1)).getD j 0 = (g.bl t n).getD j 0
        rw [bl_succ, h, if_pos rfl, List.getD_eq_getElem?_getD, List.getElem?_set, if_neg (by omega), ← List.getD_eq_getElem?_getD]

theorem impl_backlog_ok (o : g.Ok) (hf : Fits g cs) {t : Nat} (ht : t ≤ 1000) : impl_BacklogAt ((g.S : Int), (g.H : Int), (g.W : Int)) cs (t : Int) = some (g.bl t g.L, true) := by
  have hL := o.L20
  have hS := o.S12
  have key := iter_to (step := impl_BacklogAt_s2 cs (t : Int) (g.ftL, true)) (fun i => (g.bl t i, (i : Int))) g.L (r := g.bl t g.L) (by
    intro i hi
    have hfr := o.fr i hi
    have j4f : impl_BacklogAt_j4 (g.bl t i) (i : Int) ((g.tk i : Int), (g.fr i : Int), (g.to i : Int)) false = some (.inl (g.bl t i, ((i + 1 : Nat) : Int))) := by
      simp [impl_BacklogAt_j4, impl_BacklogAt_j3, w64_nat1 (show i ≤ 4611686018427387904 by omega)]
    unfold impl_BacklogAt_s2
    dsimp only
    rw [if_pos (by rw [hf.len]; simpa using hi), at_eq, hf.get i hi, Option.bind_some]
    dsimp only
    by_cases h2 : g.tk i ≤ t
    · rw [if_pos (by simpa using h2), ftL_at hi, Option.bind_some]
      by_cases h3 : t < g.ft i
      · rw [show decide ((g.ft i : Int) > (t : Int)) = true by simp; omega]
        have hb : g.bq t i = true := by simp [bq, h2, h3]
        have hm := bl_bound o t (n := i) (by omega) _ (getD_mem (l := g.bl t i) (i := g.fr i) (by rw [bl_len]; exact hfr))
        unfold impl_BacklogAt_j4
        have e5 : Int.toNat (g.fr i : Int) = g.fr i := rfl
        rw [if_pos rfl, at_eq, getD_some (show g.fr i < (g.bl t i).length by rw [bl_len]; exact hfr), Option.bind_some, e5, w64_id (by omega) (by omega)]
        unfold impl_BacklogAt_j3
        rw [w64_nat1 (i := i) (by omega)]
        rw [bl_succ]
        rw [hb, if_pos rfl]
      · have hb : g.bq t i = false := by simp [bq, h3]
        rw [show decide ((g.ft i : Int) > (t : Int)) = false by simp; omega, j4f]
        rw [bl_succ]
        rw [hb, if_neg (by simp)]
    · have hb : g.bq t i = false := by simp [bq, h2]
      rw [if_neg (by simpa using h2), j4f]
      rw [bl_succ]
      rw [hb, if_neg (by simp)]) (by
    unfold impl_BacklogAt_s2
    dsimp only
    rw [if_neg (by rw [hf.len]; simp)])
  unfold impl_BacklogAt
  rw [sent_ok o hf, Option.bind_some, if_neg (by simp), tick_eq, Option.bind_some, show inB 0 1000 (t : Int) = true by rw [inB_iff]; omega]
  unfold impl_BacklogAt_j1 impl_BacklogAt_l2
  have e0 : ((0 : Nat) : Int) = 0 := rfl
  have e1 : Int.toNat (g.S : Int) = g.S := rfl
  have e2 : g.bl t 0 = List.replicate g.S 0 := rfl
  rw [e0, e2] at key
  dsimp only
  rw [if_neg (by simp), mk_ok (by omega) (by omega) (by omega), Option.bind_some, e1, key]
  rfl
theorem spec_backlog_ok (o : g.Ok) (hf : Fits g cs) {t : Nat} (ht : t ≤ 1000) : spec_BacklogAt ((g.S : Int), (g.H : Int), (g.W : Int)) cs (t : Int) = some (g.bl t g.L, true) := by
  have hL := o.L20
  have hS := o.S12
  have key := iter_to (step := spec_BacklogAt_s2 cs (t : Int) g.ftL) (fun i => (g.bl t i, (i : Int))) g.L (r := g.bl t g.L) (by
    intro i hi
    have hfr := o.fr i hi
    have j4f : spec_BacklogAt_j4 cs (g.bl t i) (i : Int) false = some (.inl (g.bl t i, ((i + 1 : Nat) : Int))) := by
      simp [spec_BacklogAt_j4, spec_BacklogAt_j3, w64_nat1 (show i ≤ 4611686018427387904 by omega)]
    unfold spec_BacklogAt_s2
    dsimp only
    rw [if_pos (by rw [ftL_len]; simpa using hi), ftL_at hi, Option.bind_some, at_eq, hf.get i hi, Option.bind_some]
    dsimp only
    by_cases h2 : g.tk i ≤ t
    · rw [if_pos (by simpa using h2)]
      by_cases h3 : t < g.ft i
      · rw [show decide ((g.ft i : Int) > (t : Int)) = true by simp; omega]
        have hb : g.bq t i = true := by simp [bq, h2, h3]
        have hm := bl_bound o t (n := i) (by omega) _ (getD_mem (l := g.bl t i) (i := g.fr i) (by rw [bl_len]; exact hfr))
        unfold spec_BacklogAt_j4
        have e5 : Int.toNat (g.fr i : Int) = g.fr i := rfl
        rw [if_pos rfl, at_eq, hf.get i hi, Option.bind_some]
        dsimp only
        rw [at_eq, getD_some (show g.fr i < (g.bl t i).length by rw [bl_len]; exact hfr), Option.bind_some, e5, w64_id (by omega) (by omega)]
        unfold spec_BacklogAt_j3
        rw [w64_nat1 (i := i) (by omega)]
        rw [bl_succ]
        rw [hb, if_pos rfl]
      · have hb : g.bq t i = false := by simp [bq, h3]
        rw [show decide ((g.ft i : Int) > (t : Int)) = false by simp; omega, j4f]
        rw [bl_succ]
        rw [hb, if_neg (by simp)]
    · have hb : g.bq t i = false := by simp [bq, h2]
      rw [if_neg (by simpa using h2), j4f]
      rw [bl_succ]
      rw [hb, if_neg (by simp)]) (by
    unfold spec_BacklogAt_s2
    dsimp only
    rw [if_neg (by rw [ftL_len]; simp)])
  unfold spec_BacklogAt
  rw [tkCalls_eq _ _ (by rw [hf.len]; omega), called_of o hf, Option.bind_some, if_neg (by simp), l1In_eq, Option.bind_some, show inB 0 1000 (t : Int) = true by rw [inB_iff]; omega]
  unfold spec_BacklogAt_j1 spec_BacklogAt_l2
  have e0 : ((0 : Nat) : Int) = 0 := rfl
  have e1 : Int.toNat (g.S : Int) = g.S := rfl
  have e2 : g.bl t 0 = List.replicate g.S 0 := rfl
  rw [e0, e2] at key
  dsimp only
  rw [if_neg (by simp), mk_ok (by omega) (by omega) (by omega), Option.bind_some, spec_sent_ok o hf, Option.bind_some, e1, key]
  rfl

/-! #### who holds the token? -/
theorem vis_at {k n : Nat} (h : k < n) : (g.vis n)[k]? = some [(g.cm k : Int), ((k % g.S : Nat) : Int), (g.sn k : Int)] := lst_get _ h
theorem token_same (o : g.Ok) (hf : Fits g cs) {t : Nat} (ht : t ≤ 1000) : ∃ v, impl_TokenAt ((g.S : Int), (g.H : Int), (g.W : Int)) cs (t : Int) = some v ∧ spec_TokenAt ((g.S : Int), (g.H : Int), (g.W : Int)) cs (t : Int) = some v := by
  have hL := o.L20
  have hS := o.S12
  have hW := o.W1
  have hW2 := o.W10
  obtain ⟨k, hk, h1, h2⟩ := least (fun k => t < g.cm (k + 1)) t (by have := le_cm o (t + 1); omega)
  have hb : ∀ j, j ≤ k → g.cm j ≤ t := by
    intro j hj
    cases j with
    | zero => rw [cm_zero]; omega
    | succ m => have := h2 m (by omega); omega
  have hck := hb k (Nat.le_refl _)
  have hc20 := cm_20 o k
  have hsn := sn_le (g := g) k
  have hH := o.H10
  -- the second program
  have key := iter_to (step := spec_TokenAt_s2 (t : Int)) (fun j => g.stS cs j) (k + 1) (r := g.stS cs (k + 1)) (by
    intro j hj
    have h := spec_visit_ok o hf (k := j) (by omega)
    have := hb j (by omega)
    unfold stS at h ⊢
    unfold spec_TokenAt_s2
    dsimp only
    rw [if_pos (by simp; omega), h, Option.bind_some]) (by
    unfold stS spec_TokenAt_s2
    dsimp only
    rw [if_neg (by simp; omega)])
  have hspec : spec_TokenAt ((g.S : Int), (g.H : Int), (g.W : Int)) cs (t : Int) = some (if t = g.cm k ∨ t < g.cm k + g.sn k then (((k % g.S : Nat) : Int), true) else ((0 : Int), false)) := by
    unfold spec_TokenAt
    rw [tkCalls_eq _ _ (by rw [hf.len]; omega), called_of o hf, Option.bind_some, if_neg (by simp), l1In_eq, Option.bind_some, show inB 0 1000 (t : Int) = true by rw [inB_iff]; omega]
    unfold spec_TokenAt_j1 spec_TokenAt_l2
    rw [if_neg (by simp), spec_start_ok o hf, Option.bind_some]
    unfold stS at key ⊢
    dsimp only at key ⊢
    rw [key, Option.bind_some]
    dsimp only
    have e7 : (g.vis (k + 1)).length = k + 1 := lst_len _ _
    have e8 : w64 (((k + 1 : Nat) : Int) - 1) = (k : Int) := by rw [w64_id (by omega) (by omega)]; omega
    rw [e7, e8, at_eq, vis_at (by omega), Option.bind_some]
    have a0 : at? [(g.cm k : Int), ((k % g.S : Nat) : Int), (g.sn k : Int)] 0 = some (g.cm k : Int) := rfl
    have a1 : at? [(g.cm k : Int), ((k % g.S : Nat) : Int), (g.sn k : Int)] 1 = some ((k % g.S : Nat) : Int) := rfl
    have a2 : at? [(g.cm k : Int), ((k % g.S : Nat) : Int), (g.sn k : Int)] 2 = some (g.sn k : Int) := rfl
    rw [a0, Option.bind_some]
    by_cases c1 : t = g.cm k
    · rw [if_pos (by rw [beq_iff_eq]; omega), if_pos (.inl c1)]
      unfold spec_TokenAt_j3
      rw [if_pos rfl, a1]; rfl
    · rw [if_neg (by rw [beq_iff_eq]; omega), a2, Option.bind_some, w64_id (by omega) (by omega)]
      by_cases c2 : t < g.cm k + g.sn k
      · rw [show decide ((t : Int) < (g.cm k : Int) + (g.sn k : Int)) = true by simp; omega, if_pos (.inr c2)]
        unfold spec_TokenAt_j3
        rw [if_pos rfl, a1]; rfl
      · rw [show decide ((t : Int) < (g.cm k : Int) + (g.sn k : Int)) = false by simp; omega, if_neg (by omega)]
        unfold spec_TokenAt_j3
        rw [if_neg (by simp)]
  -- the first program
  refine ⟨_, ?_, hspec⟩
  have step : ∀ j, j ≤ 5000 → impl_TokenAt_s2 (t : Int) (g.stI cs j) = if t < g.cm j then some (.inr ((0 : Int), false)) else if t < g.cm j + max 1 (g.sn j) then some (.inr (((j % g.S : Nat) : Int), true)) else some (.inl (g.stI cs (j + 1))) := by
    intro j hj
    have h := impl_visit_ok o hf (k := j) (by omega)
    have hc := cm_20 o j
    have hs := sn_le (g := g) j
    unfold stI at h ⊢
    unfold impl_TokenAt_s2
    dsimp only
    rw [h, Option.bind_some]
    have a0 : at? [(g.cm j : Int), ((j % g.S : Nat) : Int), (g.sn j : Int)] 0 = some (g.cm j : Int) := rfl
    have a1 : at? [(g.cm j : Int), ((j % g.S : Nat) : Int), (g.sn j : Int)] 1 = some ((j % g.S : Nat) : Int) := rfl
    have a2 : at? [(g.cm j : Int), ((j % g.S : Nat) : Int), (g.sn j : Int)] 2 = some (g.sn j : Int) := rfl
    rw [a0, Option.bind_some]
    by_cases c1 : t < g.cm j
    · rw [if_pos (by simpa using c1), if_pos c1]
    · rw [if_neg (by simpa using c1), if_neg c1, a2, Option.bind_some]
      have em : (if (g.sn j : Int) > 1 then (g.sn j : Int) else 1) = ((max 1 (g.sn j) : Nat) : Int) := by split <;> omega
      rw [em, w64_id (by omega) (by omega)]
      by_cases c2 : t < g.cm j + max 1 (g.sn j)
      · rw [if_pos (by simp only [decide_eq_true_eq]; omega), if_pos c2, a1]; rfl
      · rw [if_neg (by simp only [decide_eq_true_eq]; omega), if_neg c2]
  have go : iter (impl_TokenAt_s2 (t : Int)) (g.stI cs 0) = iter (impl_TokenAt_s2 (t : Int)) (g.stI cs k) := iter_count (fun j => g.stI cs j) 0 k (by omega) (by
    intro j _ hj
    have q1 := hb j (by omega)
    have q2 := hb (j + 1) (by omega)
    rw [cm_succ] at q2
    rw [step j (by omega), if_neg (by omega), if_neg (by omega)])
  unfold impl_TokenAt
  rw [called_eq _ _ (by rw [hf.len]; omega), called_of o hf, Option.bind_some, if_neg (by simp), tick_eq, Option.bind_some, show inB 0 1000 (t : Int) = true by rw [inB_iff]; omega]
  unfold impl_TokenAt_j1 impl_TokenAt_l2
  rw [if_neg (by simp), impl_new_ok o hf, Option.bind_some]
  have e : ((g.stI cs 0).1, (g.stI cs 0).2.1, (g.stI cs 0).2.2.1, (g.stI cs 0).2.2.2.1, (g.stI cs 0).2.2.2.2.1, (g.stI cs 0).2.2.2.2.2.1, (g.stI cs 0).2.2.2.2.2.2) = g.stI cs 0 := rfl
  rw [e, go]
  have s1 := step k (by omega)
  rw [if_neg (by omega)] at s1
  by_cases c : t < g.cm k + max 1 (g.sn k)
  · rw [if_pos c] at s1
    rw [iter_stop s1, if_pos (by omega)]; rfl
  · rw [if_neg c] at s1
    have s2 := step (k + 1) (by omega)
    rw [if_pos h1] at s2
    rw [iter_go s1, iter_stop s2, if_neg (by omega)]; rfl

/-! #### visits -/
theorem impl_visits_ok (o : g.Ok) (hf : Fits g cs) {n : Nat} (hn : n ≤ 100) : impl_VisitsOf ((g.S : Int), (g.H : Int), (g.W : Int)) cs (n : Int) = some (g.vis n, true) := by
  have hL := o.L20
  have key := iter_to (step := impl_VisitsOf_s2 (n : Int)) (fun k => ((g.S : Int), (g.H : Int), (g.W : Int), cs, (g.cm k : Int), ((k % g.S : Nat) : Int), g.stL k, g.vis k, (k : Int))) n (r := g.vis n) (by
    intro k hk
    have h := impl_visit_ok o hf (k := k) (by omega)
    unfold stI at h
    unfold impl_VisitsOf_s2
    dsimp only
    have e7 : (g.vis k).length = k := lst_len _ _
    have e8 : g.vis k ++ [[(g.cm k : Int), ((k % g.S : Nat) : Int), (g.sn k : Int)]] = g.vis (k + 1) := (lst_succ _ _).symm
    rw [if_pos (by simpa using hk), h, Option.bind_some, app_ok (by rw [e7]; simp; omega), Option.bind_some, w64_nat1 (by omega), e8]) (by
    unfold impl_VisitsOf_s2
    dsimp only
    rw [if_neg (by simp)])
  unfold impl_VisitsOf
  rw [called_eq _ _ (by rw [hf.len]; omega), called_of o hf, Option.bind_some, if_neg (by simp), within_eq, Option.bind_some, show inB 0 100 (n : Int) = true by rw [inB_iff]; omega]
  unfold impl_VisitsOf_j1 impl_VisitsOf_l2
  rw [if_neg (by simp), impl_new_ok o hf, Option.bind_some]
  unfold stI
  dsimp only
  have e0 : ((0 : Nat) : Int) = 0 := rfl
  have e1 : g.vis 0 = [] := rfl
  rw [e0, e1] at key
  rw [key]
  rfl
end Tk
end Go.Proofs.Ytdblfocadcgmaaa.Ev.W7
