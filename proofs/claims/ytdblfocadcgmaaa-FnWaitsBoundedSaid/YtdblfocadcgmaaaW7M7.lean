/- Token rings: stations whose queues are full; no condition but lengths. -/
import Derived.Test.YtdblfocadcgmaaaW7M6
set_option linter.unusedVariables false
set_option linter.unusedSimpArgs false
namespace Go.Proofs.Ytdblfocadcgmaaa.Ev.W7
open Go
set_option linter.unusedSimpArgs false
set_option linter.unusedVariables false

def full (S e : Nat) : Nat → List Call
  | 0 => []
  | s + 1 => full S e s ++ List.replicate e ((0 : Int), (s : Int), (((s + 1) % S : Nat) : Int))
theorem full_len (S e s : Nat) : (full S e s).length = s * e := by
  induction s with
  | zero => simp [full]
  | succ s ih => unfold full; rw [List.length_append, ih, List.length_replicate, Nat.succ_mul]
theorem div_iff {n e k : Nat} (he : 0 < e) : n / e = k ↔ k * e ≤ n ∧ n < k * e + e := by
  constructor
  · rintro rfl
    have h1 := Nat.div_add_mod n e
    have h2 := Nat.mod_lt n he
    rw [Nat.mul_comm] at h1
    omega
  · rintro ⟨h1, h2⟩
    exact Nat.div_eq_of_lt_le h1 (by rw [Nat.succ_mul]; exact h2)
theorem full_get {S e : Nat} (he : 0 < e) (s : Nat) {i : Nat} (hi : i < s * e) : (full S e s)[i]? = some ((0 : Int), ((i / e : Nat) : Int), (((i / e + 1) % S : Nat) : Int)) := by
  induction s with
  | zero => omega
  | succ s ih =>
    unfold full
    rcases Nat.lt_or_ge i (s * e) with h | h
    · rw [List.getElem?_append_left (by rw [full_len]; exact h), ih h]
    · rw [Nat.succ_mul] at hi
      rw [List.getElem?_append_right (by rw [full_len]; exact h), full_len, List.getElem?_replicate, if_pos (by omega), (div_iff he).2 ⟨h, hi⟩]
theorem impl_full_in {p0 : Int × Int × Int} {S e s : Nat} (hS : p0.1 = (S : Int)) (hS2 : 0 < S) (hs : s ≤ 1000) (he : e ≤ 10) {l : List Call} (hl : l.length ≤ 1000) : impl_FullCalls_l3 p0 (e : Int) (s : Int) (l, 0) = some (l ++ List.replicate e ((0 : Int), (s : Int), (((s + 1) % S : Nat) : Int))) := by
  have key := iter_to (step := impl_FullCalls_s3 p0 (e : Int) (s : Int)) (fun k => (l ++ List.replicate k ((0 : Int), (s : Int), (((s + 1) % S : Nat) : Int)), (k : Int))) e (r := l ++ List.replicate e ((0 : Int), (s : Int), (((s + 1) % S : Nat) : Int))) (by
    intro k hk
    unfold impl_FullCalls_s3
    dsimp only
    rw [if_pos (by simpa using hk), nz_ok (by omega), Option.bind_some, hS, w64_nat1 (i := s) (by omega), Tk.tmod_nat, app_ok (by simp; omega), Option.bind_some, w64_nat1 (i := k) (by omega), List.append_assoc, ← List.replicate_succ']) (by
    unfold impl_FullCalls_s3
    dsimp only
    rw [if_neg (by simp)])
  have e0 : ((0 : Nat) : Int) = 0 := rfl
  rw [e0, List.replicate_zero, List.append_nil] at key
  exact key
theorem impl_full_out {p0 : Int × Int × Int} {S e : Nat} (hS : p0.1 = (S : Int)) (hS2 : 0 < S) (hS3 : S ≤ 12) (he : e ≤ 10) : impl_FullCalls_l2 p0 (e : Int) ([], 0) = some (full S e S) := by
  have key := iter_to (step := impl_FullCalls_s2 p0 (e : Int)) (fun s => (full S e s, (s : Int))) S (r := full S e S) (by
    intro s hs
    have hm : s * e ≤ 12 * 10 := Nat.mul_le_mul (by omega) he
    unfold impl_FullCalls_s2
    dsimp only
    rw [if_pos (by rw [hS]; simpa using hs), impl_full_in hS hS2 (by omega) he (by rw [full_len]; omega), Option.bind_some, w64_nat1 (i := s) (by omega)]
    rfl) (by
    unfold impl_FullCalls_s2
    dsimp only
    rw [if_neg (by rw [hS]; simp)])
  exact key
theorem spec_full_in {p0 : Int × Int × Int} {S e s : Nat} (hS : p0.1 = (S : Int)) (hS2 : 0 < S) (hs : s ≤ 1000) (he : e ≤ 10) {l : List Call} (hl : l.length ≤ 1000) : spec_FullCalls_l3 p0 (e : Int) (s : Int) (l, 0) = some (l ++ List.replicate e ((0 : Int), (s : Int), (((s + 1) % S : Nat) : Int))) := by
  have key := iter_to (step := spec_FullCalls_s3 p0 (e : Int) (s : Int)) (fun k => (l ++ List.replicate k ((0 : Int), (s : Int), (((s + 1) % S : Nat) : Int)), (k : Int))) e (r := l ++ List.replicate e ((0 : Int), (s : Int), (((s + 1) % S : Nat) : Int))) (by
    intro k hk
    unfold spec_FullCalls_s3
    dsimp only
    rw [if_pos (by simpa using hk), nz_ok (by omega), Option.bind_some, hS, w64_nat1 (i := s) (by omega), Tk.tmod_nat, app_ok (by simp; omega), Option.bind_some, w64_nat1 (i := k) (by omega), List.append_assoc, ← List.replicate_succ']) (by
    unfold spec_FullCalls_s3
    dsimp only
    rw [if_neg (by simp)])
  have e0 : ((0 : Nat) : Int) = 0 := rfl
  rw [e0, List.replicate_zero, List.append_nil] at key
  exact key
theorem spec_full_out {p0 : Int × Int × Int} {S e : Nat} (hS : p0.1 = (S : Int)) (hS2 : 0 < S) (hS3 : S ≤ 12) (he : e ≤ 10) : spec_FullCalls_l2 p0 (e : Int) ([], 0) = some (full S e S) := by
  have key := iter_to (step := spec_FullCalls_s2 p0 (e : Int)) (fun s => (full S e s, (s : Int))) S (r := full S e S) (by
    intro s hs
    have hm : s * e ≤ 12 * 10 := Nat.mul_le_mul (by omega) he
    unfold spec_FullCalls_s2
    dsimp only
    rw [if_pos (by rw [hS]; simpa using hs), spec_full_in hS hS2 (by omega) he (by rw [full_len]; omega), Option.bind_some, w64_nat1 (i := s) (by omega)]
    rfl) (by
    unfold spec_FullCalls_s2
    dsimp only
    rw [if_neg (by rw [hS]; simp)])
  exact key

theorem full_same (r : Int × Int × Int) (p : Int) : ∃ l f, impl_FullCalls r p = some (l, f) ∧ spec_FullCalls r p = some (l, f) ∧ l.length ≤ 20 ∧ (f = true → ∃ S e : Nat, r.1 = (S : Int) ∧ p = (e : Int) ∧ ringB r = true ∧ S * e ≤ 20 ∧ l = full S e S) := by
  unfold impl_FullCalls spec_FullCalls
  rw [ring_eq, good_eq, Option.bind_some, Option.bind_some]
  cases h : ringB r with
  | false => exact ⟨[], false, rfl, rfl, by simp, by simp⟩
  | true =>
    have hr := ringB_iff h
    rw [if_neg (by simp), if_neg (by simp), within_eq, l1In_eq, Option.bind_some, Option.bind_some]
    cases hp : inB 0 10 p with
    | false => exact ⟨[], false, rfl, rfl, by simp, by simp⟩
    | true =>
      rw [inB_iff] at hp
      obtain ⟨S, hS⟩ : ∃ S : Nat, r.1 = S := ⟨r.1.toNat, by omega⟩
      obtain ⟨e, rfl⟩ : ∃ e : Nat, p = e := ⟨p.toNat, by omega⟩
      have hm : S * e ≤ 12 * 10 := Nat.mul_le_mul (by omega) (by omega)
      have hm' : e * S = S * e := Nat.mul_comm _ _
      rw [if_neg (by simp), if_neg (by simp), hS, ← Int.natCast_mul, ← Int.natCast_mul, w64_id (by omega) (by omega), w64_id (by omega) (by omega), hm']
      by_cases h20 : S * e ≤ 20
      · rw [show decide (((S * e : Nat) : Int) > 20) = false by simp only [decide_eq_false_iff_not]; omega]
        unfold impl_FullCalls_j1 spec_FullCalls_j1
        rw [if_neg (by simp), if_neg (by simp), impl_full_out hS (by omega) (by omega) (by omega), spec_full_out hS (by omega) (by omega) (by omega)]
        exact ⟨_, _, rfl, rfl, by rw [full_len]; exact h20, fun _ => ⟨S, e, rfl, rfl, rfl, h20, rfl⟩⟩
      · rw [show decide (((S * e : Nat) : Int) > 20) = true by simp only [decide_eq_true_eq]; omega]
        exact ⟨[], false, rfl, rfl, by simp, by simp⟩

theorem shares_same (r : Int × Int × Int) (p : Int) : impl_FullShares r p = some (if ringB r && inB 0 100 p then (List.replicate r.1.toNat (w64 (p * r.2.1)), true) else ([], false)) ∧ spec_FullShares r p = some (if ringB r && inB 0 100 p then (List.replicate r.1.toNat (w64 (p * r.2.1)), true) else ([], false)) := by
  unfold impl_FullShares spec_FullShares
  rw [ring_eq, good_eq, Option.bind_some, Option.bind_some]
  cases h : ringB r with
  | false => exact ⟨rfl, rfl⟩
  | true =>
    have hr := ringB_iff h
    simp only [Bool.not_true, Bool.false_eq_true, if_false, Bool.true_and, within_eq, l1In_eq, Option.bind_some]
    cases inB 0 100 p with
    | false => exact ⟨rfl, rfl⟩
    | true =>
      obtain ⟨S, hS⟩ : ∃ S : Nat, r.1 = S := ⟨r.1.toNat, by omega⟩
      have key := iter_to (step := spec_FullShares_s2 r p) (fun k => (List.replicate k (w64 (p * r.2.1)), (k : Int))) S (r := List.replicate S (w64 (p * r.2.1))) (by
        intro k hk
        unfold spec_FullShares_s2
        dsimp only
        rw [if_pos (by rw [hS]; simpa using hk), app_ok (by simp; omega), Option.bind_some, w64_nat1 (i := k) (by omega), ← List.replicate_succ']) (by
        unfold spec_FullShares_s2
        dsimp only
        rw [if_neg (by rw [hS]; simp)])
      have key' : iter (spec_FullShares_s2 r p) ([], (0 : Int)) = some (List.replicate S (w64 (p * r.2.1))) := key
      have e : r.1.toNat = S := by omega
      have a1 : impl_FullShares_j1 r p false = some (List.replicate S (w64 (p * r.2.1)), true) := by
        unfold impl_FullShares_j1
        rw [if_neg (by simp), hS, repeat_ok _ (by omega)]; rfl
      have a2 : spec_FullShares_j1 r p false = some (List.replicate S (w64 (p * r.2.1)), true) := by
        unfold spec_FullShares_j1 spec_FullShares_l2
        rw [if_neg (by simp), key']; rfl
      exact ⟨by rw [e]; exact a1, by rw [e]; exact a2⟩

/-! #### lists that are the same -/
theorem same_self (a : List Int) (ha : a.length ≤ 1000000) : laws_zSame a a = some true := by
  have key := iter_to (step := laws_zSame_s1 a a) (fun i => (i : Int)) a.length (r := .inl ()) (by
    intro i hi
    unfold laws_zSame_s1
    rw [if_pos (by simpa using hi), at_some hi, Option.bind_some, Option.bind_some, if_neg (by simp), w64_nat1 (by omega)]) (by
    unfold laws_zSame_s1
    rw [if_neg (by simp)])
  unfold laws_zSame laws_zSame_l1
  rw [if_neg (by simp)]
  have e0 : ((0 : Nat) : Int) = 0 := rfl
  rw [e0] at key
  rw [key]
  rfl
theorem calls_self (a : List Call) (ha : a.length ≤ 1000000) : laws_zCalls a a = some true := by
  have key := iter_to (step := laws_zCalls_s1 a a) (fun i => (i : Int)) a.length (r := .inl ()) (by
    intro i hi
    unfold laws_zCalls_s1
    rw [if_pos (by simpa using hi), at_some hi, Option.bind_some, Option.bind_some, if_neg (by simp), w64_nat1 (by omega)]) (by
    unfold laws_zCalls_s1
    rw [if_neg (by simp)])
  unfold laws_zCalls laws_zCalls_l1
  rw [if_neg (by simp)]
  have e0 : ((0 : Nat) : Int) = 0 := rfl
  rw [e0] at key
  rw [key]
  rfl

/-! #### the first round of full queues -/
def fg (S H W e : Nat) : Tk := ⟨S, H, W, S * e, fun _ => 0, fun i => i / e, fun i => (i / e + 1) % S⟩
section
variable {S H W e : Nat}
theorem fg_ok (hS : 2 ≤ S ∧ S ≤ 12) (hH : 1 ≤ H ∧ H ≤ 10) (hW : 1 ≤ W ∧ W ≤ 10) (hL : S * e ≤ 20) : (fg S H W e).Ok := by
  refine ⟨hS.1, hS.2, hH.1, hH.2, hW.1, hW.2, hL, fun i hi => Nat.zero_le _, fun i hi => ?_, fun i hi => Nat.mod_lt _ (show 0 < S by omega), fun i j _ _ => Nat.le_refl _⟩
  have hi : i < S * e := hi
  exact Nat.div_lt_of_lt_mul (by rw [Nat.mul_comm]; exact hi)
theorem fg_fits (he : 0 < e) : Tk.Fits (fg S H W e) (full S e S) := ⟨full_len _ _ _, fun i hi => full_get he S hi⟩
theorem fg_none {k i : Nat} (hk : k ≤ S) (h : k ≤ i / e) : (fg S H W e).fl k i = none := by
  cases hf : (fg S H W e).fl k i with
  | none => rfl
  | some t =>
    obtain ⟨m, h1, h2, h3⟩ := Tk.fl_born hf
    have h4 := (Tk.fl_new h2 h3).1
    have h5 : i / e = m % S := h4
    rw [Nat.mod_eq_of_lt (by omega)] at h5
    omega
theorem cnt_block (he : 0 < e) (k n : Nat) : cnt (fun i => decide (i / e = k)) n = min e (n - k * e) := by
  induction n with
  | zero => simp [cnt]
  | succ n ih =>
    by_cases h : n / e = k
    · have h2 := (div_iff he).1 h
      rw [cnt_yes (by simpa using h), ih]; omega
    · have h2 : ¬ (k * e ≤ n ∧ n < k * e + e) := fun hh => h ((div_iff he).2 hh)
      rw [cnt_no (by simpa using h), ih]; omega
theorem fg_sn (he : H ≤ e) (hH : 1 ≤ H) {k : Nat} (hk : k < S) : (fg S H W e).sn k = H := by
  have hc : cnt ((fg S H W e).du k) (S * e) = cnt (fun i => decide (i / e = k)) (S * e) := by
    apply cnt_congr
    intro i hi
    rw [Tk.du_eq]
    show (decide (i / e = k % S) && (decide (0 ≤ _) && _)) = _
    rw [Nat.mod_eq_of_lt hk]
    by_cases h : i / e = k
    · rw [fg_none (by omega) (by omega)]; simp [h]
    · simp [h]
  have hm : (k + 1) * e ≤ S * e := Nat.mul_le_mul (by omega) (Nat.le_refl _)
  rw [Nat.succ_mul] at hm
  unfold Tk.sn
  show min (cnt ((fg S H W e).du k) (S * e)) H = H
  rw [hc, cnt_block (by omega)]
  omega
end
end Go.Proofs.Ytdblfocadcgmaaa.Ev.W7
