/- What 'allWithin' of the program comes to: it reports whether all numbers of a list lie between two others; the list is read as it lies; no other condition. -/
import Derived.Test.YtoeddkfbhjmbmaaPB0
namespace Go.Proofs.Ytoeddkfbhjmbmaa.PB
open Go.RowKit Go.Proofs.YtoeddkfbhjmbmaaW.PrintWords Go.Proofs.YtoeddkfbhjmbmaaW.PrintLast Go.Proofs.YtoeddkfbhjmbmaaW.PrintMore
set_option linter.unusedVariables false
set_option linter.unusedSimpArgs false

def impl_within.f (a0 : Int) (a1 : Int) (a2 : Int) : Option (Bool) := if a0 ≥ a1 then (some (decide (a0 ≤ a2))) else (some false)
set_option maxHeartbeats 400000 in
theorem impl_within.calls (a0 : Int) (a1 : Int) (a2 : Int) (r : Bool) (w : World) (h : impl_within.f a0 a1 a2 = some r) :
    Calls Try.prog 74 #[.int .i64 a0, .int .i64 a1, .int .i64 a2] w fun e w' => e = .returned (.bool r) ∧ Drawn0 w w' := by
  have H : (if a0 ≥ a1 then (some (decide (a0 ≤ a2))) else (some false)) = some r := h
  clear h
  by_cases c4 : a0 ≥ a1
  · rw [if_pos c4] at H
    have c4b0 : decide (a1 ≤ a0) = true := decide_eq_true c4
    clear c4
    obtain rfl := Option.some.inj H
    go_enter Try.func74, Try.ntmps74
    go_wp2
    go_ret
    exact ⟨by first | rfl | (simp; done) | (simp [*]; done), by repeat (first | exact Drawn0.refl _ | apply Drawn0.step)⟩
  · rw [if_neg c4] at H
    have c4b0 : decide (a1 ≤ a0) = false := decide_eq_false c4
    clear c4
    obtain rfl := Option.some.inj H
    go_enter Try.func74, Try.ntmps74
    go_wp2
    go_ret
    exact ⟨by first | rfl | (simp; done) | (simp [*]; done), by repeat (first | exact Drawn0.refl _ | apply Drawn0.step)⟩
def inB (lo hi x : Int) : Bool := decide (lo ≤ x ∧ x ≤ hi)
theorem within_tells (x lo hi : Int) : impl_within.f x lo hi = some (inB lo hi x) := by
  unfold impl_within.f inB
  by_cases c : x ≥ lo
  · rw [if_pos c]
    congr 1
    simp [show lo ≤ x from c]
  · rw [if_neg c]
    simp [show ¬ lo ≤ x from c]

set_option maxHeartbeats 400000 in
theorem allWithin_closure (x lo hi : Int) (b1 b2 : Nat) (w : World) (h1 : w.cell? ⟨b1, 0, none⟩ = some (.int .i64 lo)) (h2 : w.cell? ⟨b2, 0, none⟩ = some (.int .i64 hi)) :
    Calls Try.prog 115 #[.int .i64 x, .pointer (some ⟨b1, 0, none⟩), .pointer (some ⟨b2, 0, none⟩)] w fun e w' => e = .returned (.bool (!(inB lo hi x))) ∧ Drawn0 w w' := by
  have HW := Aside0.mk (within_tells x lo hi)
  go_enter Try.func115, Try.ntmps115
  go_wp2_with (go_at_call 74; (with_reducible refine (impl_within.calls x lo hi _ _ HW.out).mono ?_); rintro e w' ⟨rfl, ⟨nd, rfl⟩⟩)
  go_ret
  exact ⟨rfl, by repeat (first | exact Drawn0.refl _ | apply Drawn0.step)⟩

/-- The first place, from i on, of a number that does not lie between two others. -/
def outFrom.l0 (lo hi : Int) : Nat → List Int → Int → Option Int
  | 0, _, _ => none
  | k + 1, l, i => if i < (l.length : Int) then (if (!(inB lo hi (rd l i))) = true then some i else outFrom.l0 lo hi k l (wrap64 (i + 1))) else some (-1)

set_option maxHeartbeats 1000000 in
theorem allWithin_index (k : Nat) (lo hi : Int) (b1 b2 : Nat) (A0 : Option Addr) (c0 : Nat) (l0 : List Int) (r : Int) (w : World) (h1 : w.cell? ⟨b1, 0, none⟩ = some (.int .i64 lo)) (h2 : w.cell? ⟨b2, 0, none⟩ = some (.int .i64 hi))
    (hr0 : Kd.C (Kd.int .i64) w A0 l0.length l0) (hc0 : l0.length ≤ c0) (hl : l0.length < 4611686018427387904) (h : outFrom.l0 lo hi k l0 0 = some r) :
    Calls Try.prog 118 #[.slice A0 l0.length c0, .func (.func 115) #[] #[.pointer (some ⟨b1, 0, none⟩), .pointer (some ⟨b2, 0, none⟩)]] w
      fun e w' => e = .returned (.int .i64 r) ∧ Drawn0 w w' := by
  have HR0 := Aside0.mk hr0
  have HC0 := Aside0.mk hc0
  have HL := Aside0.mk hl
  have H1 := Aside0.mk h1
  have H2 := Aside0.mk h2
  have H' := Aside0.mk h
  clear hr0 hc0 h h1 h2 hl
  go_enter Try.func118, Try.ntmps118
  go_wp2
  go_loopg [5, 8] k (fun kq v5 v8 w' => ∃ (x8 : Int), v8 = .int .i64 x8 ∧ 0 ≤ x8 ∧ Aside0 (outFrom.l0 lo hi kq l0 x8 = some r) ∧ Aside0 (kq ≤ k) ∧ Drawn0 w w')
  case atStart => exact ⟨0, rfl, by omega, H', ⟨Nat.le_refl _⟩, by repeat (first | exact Drawn0.refl _ | apply Drawn0.step)⟩
  case round =>
    clear H'
    obtain ⟨x8, rfl, h0, HA, HK1, ⟨m1, rfl⟩⟩ := hrel
    cases gk with
    | zero => exact absurd HA.out (by simp [outFrom.l0])
    | succ k1 =>
      have H := HA.out
      clear HA
      simp only [outFrom.l0] at H
      by_cases c3 : x8 < (l0.length : Int)
      · rw [if_pos c3] at H
        have c3b0 : decide (x8 < (l0.length : Int)) = true := decide_eq_true c3
        obtain ⟨ad1, e1, hx1⟩ := Kd.at_int HR0.out x8 h0 c3
        cases e1
        have p1 : decide (0 ≤ x8) = true := decide_eq_true h0
        have hcl := Aside0.mk (fun W (h1 : W.cell? ⟨b1, 0, none⟩ = some (.int .i64 lo)) (h2 : W.cell? ⟨b2, 0, none⟩ = some (.int .i64 hi)) => allWithin_closure (rd l0 x8) lo hi b1 b2 W h1 h2)
        by_cases c4 : (!(inB lo hi (rd l0 x8))) = true
        · rw [if_pos c4] at H
          obtain rfl := Option.some.inj H
          clear H
          generalize hin : inB lo hi (rd l0 x8) = y at c4 hcl
          have HIN := Aside0.mk hin
          clear hin
          obtain rfl : y = false := by simpa using c4
          clear c4
          go_wp2_with (go_at_call 115; have hq := hcl.out (w.drewN m1) H1.out H2.out; (with_reducible refine hq.mono ?_); clear hq; rintro e w' ⟨rfl, ⟨nd, rfl⟩⟩)
          go_ret
          exact ⟨rfl, by repeat (first | exact Drawn0.refl _ | apply Drawn0.step)⟩
        · rw [if_neg c4] at H
          have H' := Aside0.mk H
          clear H
          generalize hin : inB lo hi (rd l0 x8) = y at c4 hcl
          have HIN := Aside0.mk hin
          clear hin
          obtain rfl : y = true := by simpa using c4
          clear c4
          go_wp2_with (go_at_call 115; have hq := hcl.out (w.drewN m1) H1.out H2.out; (with_reducible refine hq.mono ?_); clear hq; rintro e w' ⟨rfl, ⟨nd, rfl⟩⟩)
          go_roundg k1
          case measure => have := HK1.out; omega
          case rel => exact ⟨wrap64 (x8 + 1), by first | rfl | (simp; done), by (have := HL.out; rw [show wrap64 (x8 + 1) = x8 + 1 by unfold wrap64; omega]; omega), H', ⟨by have := HK1.out; omega⟩, by repeat (first | exact Drawn0.refl _ | apply Drawn0.step)⟩
      · rw [if_neg c3] at H
        have c3b0 : decide (x8 < (l0.length : Int)) = false := decide_eq_false c3
        obtain rfl := Option.some.inj H
        go_wp2
        go_ret
        exact ⟨rfl, by repeat (first | exact Drawn0.refl _ | apply Drawn0.step)⟩

set_option maxHeartbeats 400000 in
theorem allWithin_contains (k : Nat) (lo hi : Int) (b1 b2 : Nat) (A0 : Option Addr) (c0 : Nat) (l0 : List Int) (r : Int) (w : World) (h1 : w.cell? ⟨b1, 0, none⟩ = some (.int .i64 lo)) (h2 : w.cell? ⟨b2, 0, none⟩ = some (.int .i64 hi))
    (hr0 : Kd.C (Kd.int .i64) w A0 l0.length l0) (hc0 : l0.length ≤ c0) (hl : l0.length < 4611686018427387904) (h : outFrom.l0 lo hi k l0 0 = some r) :
    Calls Try.prog 114 #[.slice A0 l0.length c0, .func (.func 115) #[] #[.pointer (some ⟨b1, 0, none⟩), .pointer (some ⟨b2, 0, none⟩)]] w
      fun e w' => e = .returned (.bool (decide (0 ≤ r))) ∧ Drawn0 w w' := by
  have hq := Aside0.mk (fun W (h1 : W.cell? ⟨b1, 0, none⟩ = some (.int .i64 lo)) (h2 : W.cell? ⟨b2, 0, none⟩ = some (.int .i64 hi)) (hr0 : Kd.C (Kd.int .i64) W A0 l0.length l0) => allWithin_index k lo hi b1 b2 A0 c0 l0 r W h1 h2 hr0 hc0 hl h)
  have HR0 := Aside0.mk hr0
  have H1 := Aside0.mk h1
  have H2 := Aside0.mk h2
  clear hr0 hc0 h h1 h2 hl
  go_enter Try.func114, Try.ntmps114
  go_wp2_with (go_at_call 118; have hq1 := hq.out w H1.out H2.out HR0.out; (with_reducible refine hq1.mono ?_); clear hq1; rintro e w' ⟨rfl, ⟨nd, rfl⟩⟩)
  go_ret
  exact ⟨rfl, by repeat (first | exact Drawn0.refl _ | apply Drawn0.step)⟩

theorem outFrom_ends (lo hi : Int) (l : List Int) (hl : l.length < 4611686018427387904) (d : Nat) : ∀ (k i : Nat), i ≤ l.length → l.length - i = d → d < k →
    ∃ r, outFrom.l0 lo hi k l (i : Int) = some r ∧ (0 ≤ r ↔ (l.drop i).any (fun x => !(inB lo hi x)) = true) := by
  induction d with
  | zero =>
    intro k i h1 hd hk
    obtain ⟨k, rfl⟩ : ∃ m, k = m + 1 := ⟨k - 1, by omega⟩
    refine ⟨-1, ?_, ?_⟩
    · simp only [outFrom.l0]
      rw [if_neg (by omega)]
    · rw [List.drop_of_length_le (by omega)]
      simp
  | succ d ih =>
    intro k i h1 hd hk
    obtain ⟨k, rfl⟩ : ∃ m, k = m + 1 := ⟨k - 1, by omega⟩
    have hin : i < l.length := by omega
    have e : rd l (i : Int) = l[i] := by
      unfold rd
      simp [List.getD, hin]
    rw [List.drop_eq_getElem_cons hin, List.any_cons, ← e]
    simp only [outFrom.l0]
    rw [if_pos (by omega)]
    cases h : inB lo hi (rd l (i : Int))
    · exact ⟨i, by simp, by simp [h]⟩
    · obtain ⟨r, hr, h2⟩ := ih k (i + 1) (by omega) (by omega) (by omega)
      refine ⟨r, ?_, by simpa [h] using h2⟩
      rw [if_neg (by simp), show wrap64 ((i : Int) + 1) = ((i + 1 : Nat) : Int) by unfold wrap64; omega]
      exact hr

/-- All numbers lie between two others. -/
def impl_allWithin.f (l : List Int) (lo hi : Int) : Option Bool := if l.length < 4611686018427387904 then some (l.all fun x => inB lo hi x) else none
set_option maxHeartbeats 400000 in
theorem impl_allWithin.calls (A0 : Option Addr) (c0 : Nat) (l0 : List Int) (a1 : Int) (a2 : Int) (r : Bool) (w : World) (hr0 : Kd.C (Kd.int .i64) w A0 l0.length l0) (hc0 : l0.length ≤ c0) (h : impl_allWithin.f l0 a1 a2 = some r) :
    Calls Try.prog 89 #[.slice A0 l0.length c0, .int .i64 a1, .int .i64 a2] w fun e w' => e = .returned (.bool r) ∧ Below w.heap.size w w' := by
  unfold impl_allWithin.f at h
  by_cases hl : l0.length < 4611686018427387904
  case neg =>
    rw [if_neg hl] at h
    exact absurd h (by simp)
  rw [if_pos hl] at h
  obtain rfl := Option.some.inj h
  clear h
  obtain ⟨q, hq, hqr⟩ := outFrom_ends a1 a2 l0 hl l0.length (l0.length + 1) 0 (by omega) (by omega) (by omega)
  have hb : (l0.all fun x => inB a1 a2 x) = !(decide (0 ≤ q)) := by
    rw [List.drop_zero] at hqr
    rw [List.all_eq_not_any_not]
    congr 1
    cases hx : l0.any fun x => !(inB a1 a2 x)
    · exact (decide_eq_false (by rw [hqr, hx]; simp)).symm
    · exact (decide_eq_true (by rw [hqr, hx])).symm
  rw [hb]
  have hcl := Aside0.mk (fun W (h1 : W.cell? ⟨w.heap.size, 0, none⟩ = some (.int .i64 a1)) (h2 : W.cell? ⟨w.heap.size + 1, 0, none⟩ = some (.int .i64 a2)) (hr0 : Kd.C (Kd.int .i64) W A0 l0.length l0) =>
    allWithin_contains (l0.length + 1) a1 a2 w.heap.size (w.heap.size + 1) A0 c0 l0 q W h1 h2 hr0 hc0 hl hq)
  have HR0 := Aside0.mk hr0
  clear hr0 hc0 hq hqr hb hl
  go_enter Try.func89, Try.ntmps89
  go_wp2_with (go_at_call 114; have hq1 := hcl.out ((w.alloc (.cells #[.int .i64 a1] 3)).alloc (.cells #[.int .i64 a2] 3)) (by simp) (by simp) (Kd.C_below HR0.out (((Below.refl _ _).alloc (Nat.le_refl _) _).alloc (by simp) _)); (with_reducible refine hq1.mono ?_); clear hq1; rintro e w' ⟨rfl, ⟨nd, rfl⟩⟩)
  go_ret
  exact ⟨rfl, pw_below_drewN (((Below.refl _ _).alloc (Nat.le_refl _) _).alloc (by simp) _) _⟩
end Go.Proofs.Ytoeddkfbhjmbmaa.PB
