/- Sizes of rows of numbers bound what is marked; no condition but lengths. -/
import Derived.Test.YtoeddkfbhjmbmaaPureG
import Derived.Test.YtoeddkfbhjmbmaaPureSE
import Derived.Test.YtoeddkfbhjmbmaaPA48
import Derived.Test.YtoeddkfbhjmbmaaPA30
namespace Go.Proofs.Ytoeddkfbhjmbmaa.PA
open Go.RowKit Go.Proofs.YtoeddkfbhjmbmaaW.PrintWords Go.Proofs.YtoeddkfbhjmbmaaW.PrintLast Go.Proofs.YtoeddkfbhjmbmaaW.PrintMore
theorem szSS_l0 (x : List (List Int)) (hx : Rows44 x) (d : Nat) : ∀ (i : Nat) (v : Int), i ≤ x.length → x.length - i = d → 0 ≤ v → v ≤ 1048576 →
    ∃ q, Tells (fun k => laws_szIntSS.l0 k x v (i : Int)) q ∧ (0 ≤ q → (sizeSS (x.drop i) : Int) ≤ v) := by
  have h1 := hx.1
  induction d with
  | zero =>
    intro i v hi hd h0 hv
    rw [List.drop_of_length_le (by omega)]
    refine ⟨v, Tells.succ (Tells.now fun k => ?_), fun _ => by simpa [sizeSS] using h0⟩
    simp only [laws_szIntSS.l0]
    rw [if_neg (by omega)]
  | succ d ih =>
    intro i v hi hd h0 hv
    have hin : i < x.length := by omega
    have hb := hx.2 x[i] (List.getElem_mem hin)
    rw [List.drop_eq_getElem_cons hin]
    by_cases c : v - (x[i].length : Int) < 0
    · refine ⟨-1, Tells.succ (Tells.now fun k => ?_), fun h => by omega⟩
      simp only [laws_szIntSS.l0, laws_szIntS.f]
      rw [if_pos (by omega), if_pos (by omega), rdL_at x i hin, w64 (x := v - (x[i].length : Int)) (by omega) (by omega), if_pos c]
      rfl
    · obtain ⟨q, h2, h3⟩ := ih (i + 1) (v - (x[i].length : Int)) (by omega) (by omega) (by omega) (by omega)
      refine ⟨q, Tells.step (fun k => ?_) h2, fun h => by have := h3 h; simp only [sizeSS]; omega⟩
      simp only [laws_szIntSS.l0, laws_szIntS.f]
      rw [if_pos (by omega), if_pos (by omega), rdL_at x i hin, w64 (x := v - (x[i].length : Int)) (by omega) (by omega), if_neg c, w64 (x := (i : Int) + 1) (by omega) (by omega)]
      simp only [Option.bind_some]
      rw [if_neg c]
      rfl
theorem szSS_tells (x : List (List Int)) (hx : Rows44 x) (z : Int) (h0 : 0 ≤ z) (hz : z ≤ 1048576) : ∃ q, Tells (fun k => laws_szIntSS.f k x z) q ∧ (0 ≤ q → (x.length : Int) + sizeSS x ≤ z) := by
  have h1 := hx.1
  by_cases c : z - (x.length : Int) < 0
  · refine ⟨-1, Tells.now fun k => ?_, fun h => by omega⟩
    simp only [laws_szIntSS.f]
    rw [w64 (by omega) (by omega), if_pos c]
  · obtain ⟨q, h2, h3⟩ := szSS_l0 x hx x.length 0 (z - (x.length : Int)) (by omega) (by omega) (by omega) (by omega)
    refine ⟨q, ?_, fun h => by have := h3 h; simp only [List.drop_zero] at this; omega⟩
    have e (k : Nat) : laws_szIntSS.f k x z = laws_szIntSS.l0 k x (z - (x.length : Int)) ((0 : Nat) : Int) := by
      simp only [laws_szIntSS.f]
      rw [w64 (x := z - (x.length : Int)) (by omega) (by omega), if_neg c]
      rfl
    simp only [e]
    exact h2
theorem szRing_is (t w : Int) (l : List Int) (hl : l.length ≤ 17592186044416) : ∃ z, laws_szTimedRing.f t w l 1048576 = some z ∧ z ≤ 1048576 ∧ (0 ≤ z → l.length ≤ 1048576) := by
  simp only [laws_szTimedRing.f, laws_szIntS.f]
  rw [w64 (x := (1048576 : Int) - (l.length : Int)) (by omega) (by omega)]
  by_cases c : (1048576 : Int) - (l.length : Int) < 0
  · rw [if_pos c]
    exact ⟨-1, rfl, by omega, fun h => by omega⟩
  · rw [if_neg c]
    simp only [Option.bind_some]
    rw [if_neg c]
    exact ⟨_, rfl, by omega, fun _ => by omega⟩
theorem markRing_tells (t w : Int) (l : List Int) (hl : l.length ≤ 1048576) : Tells (fun k => laws_markTimedRing.f k t w l 1) (1 + (l.length : Int), marked 1 l.length) := by
  refine ⟨l.length + 1, fun k hk => ?_⟩
  simp only [laws_markTimedRing.f]
  rw [markIntS_tells l (by omega) (by omega)]
  rfl
theorem sizeSS_mem (x : List (List Int)) : ∀ r ∈ x, r.length ≤ sizeSS x := by
  induction x with
  | nil => intro r hr; simp at hr
  | cons q x ih =>
    intro r hr
    simp only [sizeSS]
    rcases List.mem_cons.1 hr with rfl | hr
    · omega
    · have := ih r hr
      omega
theorem markRows_tells (x : List (List Int)) (hx : (x.length : Int) + sizeSS x ≤ 1048576) (v : Int) (h0 : 0 ≤ v) (hv : v ≤ 2000000) : ∃ r : Int × List (List Int), Tells (fun k => laws_markIntSS.f k x v) r ∧ 0 ≤ r.1 := by
  refine ⟨(v + sizeSS x, markedSS v x), ⟨x.length + 1048576 + 1, fun k hk => ?_⟩, by simp only; omega⟩
  have := markSS_l0 1048576 [] x v k (fun r hr => by have := sizeSS_mem x r hr; omega) h0 (by omega) (by simp; omega) (by omega) [] rfl
  simpa [laws_markIntSS.f] using this
theorem held_any (K : Nat) (A : Option Addr) (c : Nat) (M : List (List Int)) (n : Nat) (hn : M.length = n) (v r : Int) (w : World) (hC : Kd.C (Kd.slice 3 (Kd.int .i64)) w A n M) (hc : n ≤ c) (h : laws_heldIntSS.f K M v = some r) :
    Calls Try.prog 43 #[.slice A n c, .int .i64 v] w fun e w' => e = .returned (.int .i64 r) ∧ Drawn0 w w' := by
  subst hn
  exact laws_heldIntSS.calls K A c M v r w hC hc h
theorem held_one (K : Nat) (A : Option Addr) (c : Nat) (M : List Int) (n : Nat) (hn : M.length = n) (v r : Int) (w : World) (hC : Kd.C (Kd.int .i64) w A n M) (hc : n ≤ c) (h : laws_heldIntS.f K M v = some r) :
    Calls Try.prog 31 #[.slice A n c, .int .i64 v] w fun e w' => e = .returned (.int .i64 r) ∧ Drawn0 w w' := by
  subst hn
  exact laws_heldIntS.calls K A c M v r w hC hc h
end Go.Proofs.Ytoeddkfbhjmbmaa.PA
