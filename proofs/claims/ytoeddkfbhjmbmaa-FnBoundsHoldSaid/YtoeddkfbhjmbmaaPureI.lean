/- The delay of what a server sends: the program and the reference tell the same; no condition but that there are a server and traffic. -/
import Derived.Test.YtoeddkfbhjmbmaaPureH
import Derived.Test.YtoeddkfbhjmbmaaPB11
namespace Go.Proofs.Ytoeddkfbhjmbmaa.PB
open Go.RowKit Go.Proofs.YtoeddkfbhjmbmaaW.PrintWords Go.Proofs.YtoeddkfbhjmbmaaW.PrintLast Go.Proofs.YtoeddkfbhjmbmaaW.PrintMore
namespace Srv
/-- The greatest of t - k, nothing if there is none. -/
def IsMost (P : Nat → Nat → Prop) (d : Int) : Prop := 0 ≤ d ∧ (∀ t k, P t k → (t : Int) - k ≤ d) ∧ (d = 0 ∨ ∃ t k, P t k ∧ d = (t : Int) - k)
theorem IsMost.eq {P : Nat → Nat → Prop} {d e : Int} (h : IsMost P d) (g : IsMost P e) : d = e := by
  have a : d ≤ e := by
    rcases h.2.2 with c | ⟨t, k, c, rfl⟩
    · have := g.1; omega
    · exact g.2.1 t k c
  have b : e ≤ d := by
    rcases g.2.2 with c | ⟨t, k, c, rfl⟩
    · have := h.1; omega
    · exact h.2.1 t k c
  omega
theorem IsMost.same {P Q : Nat → Nat → Prop} {d : Int} (h : IsMost P d) (i : ∀ t k, P t k ↔ Q t k) : IsMost Q d :=
  ⟨h.1, fun t k q => h.2.1 t k ((i t k).2 q), by
    rcases h.2.2 with c | ⟨t, k, c, e⟩
    · exact .inl c
    · exact .inr ⟨t, k, (i t k).1 c, e⟩⟩
theorem IsMost.more {P Q : Nat → Nat → Prop} {d : Int} (h : IsMost P d) (t k : Nat) (i : ∀ t' k', Q t' k' ↔ P t' k' ∨ (t' = t ∧ k' = k)) : IsMost Q (mx d ((t : Int) - k)) := by
  have hm : d ≤ mx d ((t : Int) - k) ∧ (t : Int) - k ≤ mx d ((t : Int) - k) ∧ (mx d ((t : Int) - k) = d ∨ mx d ((t : Int) - k) = (t : Int) - k) := by
    unfold mx
    split <;> omega
  refine ⟨by have := h.1; omega, fun t' k' q => ?_, ?_⟩
  · rcases (i t' k').1 q with c | ⟨rfl, rfl⟩
    · have := h.2.1 t' k' c
      omega
    · exact hm.2.1
  · rcases hm.2.2 with c | c
    · rw [c]
      rcases h.2.2 with e | ⟨t', k', e, f⟩
      · exact .inl e
      · exact .inr ⟨t', k', (i t' k').2 (.inl e), f⟩
    · exact .inr ⟨t, k, (i t k).2 (.inr ⟨rfl, rfl⟩), c⟩
variable {l : List Int} {r lat : Int}
/-- With tick t is sent what has come with tick k. -/
def S (l : List Int) (r lat : Int) (t k : Nat) : Prop := k < l.length ∧ tr l k > 0 ∧ C l (k + 1) ≤ G l r lat (t + 1) ∧ C l (k + 1) > G l r lat t
theorem S_le (h : Ok l r) {t k : Nat} (s : S l r lat t k) : k ≤ t := by
  obtain ⟨_, s2, s3, _⟩ := s
  rcases Nat.lt_or_ge t k with c | c
  · have h1 := C_mono h (show t + 1 ≤ k by omega)
    have h2 := G_eq (l := l) (r := r) (lat := lat) (t + 1)
    have h3 := B_ok (lat := lat) h (t + 1)
    simp only [C] at s3 h1 h2 h3
    omega
  · exact c
theorem Dk_most (h : Ok l r) (t : Nat) (d : Int) (hd : IsMost (fun t' k' => t' < t ∧ S l r lat t' k') d) : ∀ n, n ≤ l.length → IsMost (fun t' k' => (t' < t ∧ S l r lat t' k') ∨ (t' = t ∧ k' < n ∧ S l r lat t' k')) (Dk l r lat t d n)
  | 0, _ => hd.same fun t' k' => ⟨fun p => .inl p, fun p => by rcases p with p | ⟨_, p, _⟩; exact p; omega⟩
  | n + 1, hn => by
    have ih := Dk_most h t d hd n (by omega)
    simp only [Dk]
    by_cases c : tr l n > 0 ∧ C l (n + 1) ≤ G l r lat (t + 1) ∧ C l (n + 1) > G l r lat t
    · rw [if_pos c]
      refine ih.more t n fun t' k' => ⟨fun p => ?_, fun p => ?_⟩
      · rcases p with p | ⟨p1, p2, p3⟩
        · exact .inl (.inl p)
        · rcases Nat.lt_or_ge k' n with e | e
          · exact .inl (.inr ⟨p1, e, p3⟩)
          · exact .inr ⟨p1, by omega⟩
      · rcases p with (p | ⟨p1, p2, p3⟩) | ⟨rfl, rfl⟩
        · exact .inl p
        · exact .inr ⟨p1, by omega, p3⟩
        · exact .inr ⟨rfl, by omega, by omega, c⟩
    · rw [if_neg c]
      refine ih.same fun t' k' => ⟨fun p => ?_, fun p => ?_⟩
      · rcases p with p | ⟨p1, p2, p3⟩
        · exact .inl p
        · exact .inr ⟨p1, by omega, p3⟩
      · rcases p with p | ⟨p1, p2, p3⟩
        · exact .inl p
        · rcases Nat.lt_or_ge k' n with e | e
          · exact .inr ⟨p1, e, p3⟩
          · obtain rfl : k' = n := by omega
            subst p1
            exact absurd p3.2 c
theorem D_most (h : Ok l r) : ∀ t, IsMost (fun t' k' => t' < t ∧ S l r lat t' k') (D l r lat t)
  | 0 => ⟨Int.le_refl _, fun _ _ p => by omega, .inl rfl⟩
  | t + 1 => by
    refine (Dk_most h t _ (D_most h t) (min (t + 1) l.length) (by omega)).same fun t' k' => ⟨fun p => ?_, fun p => ?_⟩
    · rcases p with ⟨p1, p2⟩ | ⟨p1, _, p3⟩
      · exact ⟨by omega, p2⟩
      · exact ⟨by omega, p3⟩
    · rcases Nat.lt_or_ge t' t with c | c
      · exact .inl ⟨c, p.2⟩
      · obtain rfl : t' = t := by omega
        have := S_le h p.2
        exact .inr ⟨rfl, by have := p.2.1; omega, p.2⟩
theorem most_eq (a b : Int) : spec_l1Most.f a b = some (mx a b) := by
  unfold spec_l1Most.f mx
  split <;> split <;> first | rfl | (congr 1; omega)
theorem delay_inner (h : Ok l r) (T s : Nat) (hs : s < l.length) (hT : T ≤ 100) (hlT : l.length ≤ T) (hB : B l r lat T = 0) (m : Int) {Q : Int → Prop}
    (hl : ∀ p, p < T → G l r lat p < C l (s + 1) → C l (s + 1) ≤ G l r lat (p + 1) →
      ∃ q, Tells (fun k => spec_shDelay.l0 k (outs l r lat T) (mx m ((p : Int) - s)) (C l (s + 1)) (G l r lat p) (p : Int) l (l.length : Int) ((s + 1 : Nat) : Int)) q ∧ Q q) : ∀ (d p : Nat), p + d = T → G l r lat p < C l (s + 1) →
    ∃ q, Tells (fun k => spec_shDelay.l1 k (outs l r lat T) m (C l (s + 1)) (G l r lat p) (p : Int) (s : Int) l (l.length : Int) (s : Int)) q ∧ Q q
  | 0, p, hp, hg => by
    obtain rfl : p = T := by omega
    have h1 := G_eq (l := l) (r := r) (lat := lat) p
    have h2 := C_mono h (show s + 1 ≤ p by omega)
    omega
  | d + 1, p, hp, hg => by
    have hG := G_eq (l := l) (r := r) (lat := lat) (p + 1)
    have hB' := B_ok (lat := lat) h (p + 1)
    have hC' := C_ok h (p + 1)
    have hG1 : G l r lat (p + 1) = G l r lat p + X l r lat p := rfl
    by_cases c : G l r lat (p + 1) < C l (s + 1)
    · obtain ⟨q, hq, hQ⟩ := delay_inner h T s hs hT hlT hB m hl d (p + 1) (by omega) c
      refine ⟨q, ?_, hQ⟩
      refine Tells.succ ?_
      simp only [spec_shDelay.l1, outs_len, if_pos (show (p : Int) < (T : Int) by omega), if_pos (show (0 : Int) ≤ (p : Int) by omega)]
      rw [outs_rd (show p < T by omega), ← hG1, w64 (x := G l r lat (p + 1)) (by omega) (by omega), w64 (x := (p : Int) + 1) (by omega) (by omega)]
      simp only [if_pos c]
      exact hq
    · obtain ⟨q, hq, hQ⟩ := hl p (by omega) hg (by omega)
      refine ⟨q, ?_, hQ⟩
      refine Tells.succ ?_
      simp only [spec_shDelay.l1, outs_len, if_pos (show (p : Int) < (T : Int) by omega), if_pos (show (0 : Int) ≤ (p : Int) by omega)]
      rw [outs_rd (show p < T by omega), ← hG1, w64 (x := G l r lat (p + 1)) (by omega) (by omega)]
      have hll := h.len
      simp only [if_neg c, most_eq, Option.bind_some]
      rw [w64 (x := (p : Int) - s) (by omega) (by omega), w64 (x := (s : Int) + 1) (by omega) (by omega)]
      exact hq
theorem delay_run (h : Ok l r) (T : Nat) (hT : T ≤ 100) (hlT : l.length ≤ T) (hB : B l r lat T = 0) : ∀ (d s : Nat), s + d = l.length → ∀ (p : Nat) (m : Int), p ≤ T → G l r lat p ≤ C l s → IsMost (fun t k => k < s ∧ t < T ∧ S l r lat t k) m →
    ∃ q, Tells (fun k => spec_shDelay.l0 k (outs l r lat T) m (C l s) (G l r lat p) (p : Int) l (l.length : Int) (s : Int)) q ∧ IsMost (fun t k => t < T ∧ S l r lat t k) q
  | 0, s, hs, p, m, hp, hg, hm => by
    obtain rfl : s = l.length := by omega
    refine ⟨m, ?_, hm.same fun t k => ⟨fun p => p.2, fun p => ⟨p.2.1, p⟩⟩⟩
    refine Tells.succ ?_
    simp only [spec_shDelay.l0, if_neg (show ¬ (l.length : Int) < (l.length : Int) by omega)]
    exact Tells.now fun _ => rfl
  | d + 1, s, hs, p, m, hp, hg, hm => by
    have hll := h.len
    have hC := C_ok h s
    have hC' := C_ok h (s + 1)
    have ht := tr_ok h s
    have hrd : rd l (s : Int) = tr l s := rd_nat l s
    have hCs : C l (s + 1) = C l s + tr l s := rfl
    have open_ : ∀ {R : Int}, Tells (fun k => if tr l s = 0 then spec_shDelay.l0 k (outs l r lat T) m (C l (s + 1)) (G l r lat p) (p : Int) l (l.length : Int) ((s + 1 : Nat) : Int) else spec_shDelay.l1 k (outs l r lat T) m (C l (s + 1)) (G l r lat p) (p : Int) (s : Int) l (l.length : Int) (s : Int)) R →
        Tells (fun k => spec_shDelay.l0 k (outs l r lat T) m (C l s) (G l r lat p) (p : Int) l (l.length : Int) (s : Int)) R := by
      intro R hR
      refine Tells.succ ?_
      simp only [spec_shDelay.l0, if_pos (show (s : Int) < (l.length : Int) by omega), if_pos (show (0 : Int) ≤ (s : Int) by omega), hrd, ← hCs]
      rw [w64 (x := C l (s + 1)) (by omega) (by omega), w64 (x := (s : Int) + 1) (by omega) (by omega)]
      exact hR
    by_cases c : tr l s = 0
    · obtain ⟨q, hq, hQ⟩ := delay_run h T hT hlT hB d (s + 1) (by omega) p m hp (by omega) (hm.same fun t k => ⟨fun x => ⟨by omega, x.2⟩, fun x => by
        rcases Nat.lt_or_ge k s with e | e
        · exact ⟨e, x.2⟩
        · obtain rfl : k = s := by omega
          have := x.2.2.2.1
          omega⟩)
      refine ⟨q, open_ ?_, hQ⟩
      simpa only [c, if_true] using hq
    · obtain ⟨q, hq, hQ⟩ := delay_inner h T s (by omega) hT hlT hB m (Q := IsMost (fun t k => t < T ∧ S l r lat t k)) (fun p' hp' hg' hg'' => by
        refine delay_run h T hT hlT hB d (s + 1) (by omega) p' _ (by omega) (by omega) (hm.more p' s fun t k => ⟨fun x => ?_, fun x => ?_⟩)
        · rcases Nat.lt_or_ge k s with e | e
          · exact .inl ⟨e, x.2⟩
          · obtain rfl : k = s := by omega
            refine .inr ⟨?_, rfl⟩
            obtain ⟨_, _, x1, x2⟩ := x.2.2
            rcases Nat.lt_trichotomy t p' with f | f | f
            · have := G_mono (lat := lat) h (show t + 1 ≤ p' by omega)
              omega
            · exact f
            · have := G_mono (lat := lat) h (show p' + 1 ≤ t by omega)
              omega
        · rcases x with x | ⟨rfl, rfl⟩
          · exact ⟨by omega, x.2⟩
          · exact ⟨by omega, hp', by omega, by omega, hg'', hg'⟩) (T - p) p (by omega) (by omega)
      refine ⟨q, open_ ?_, hQ⟩
      simpa only [c, if_false] using hq
theorem delay_tells (h : Ok l r) (T : Nat) (hT : T ≤ 100) (hg : ¬ go l r lat T = true) : Tells (fun k => spec_shDelay.f k l (outs l r lat T)) (D l r lat T) := by
  simp only [go, Bool.or_eq_true, decide_eq_true_eq, not_or] at hg
  have hB := B_ok (lat := lat) h T
  obtain ⟨q, hq, hQ⟩ := delay_run (lat := lat) h T hT (by omega) (by omega) l.length 0 (by omega) 0 0 (by omega) (by simp [G, C]) ⟨Int.le_refl _, fun _ _ p => by omega, .inl rfl⟩
  rw [← hQ.eq (D_most h T)]
  simpa [spec_shDelay.f, G, C] using hq
end Srv
end Go.Proofs.Ytoeddkfbhjmbmaa.PB
