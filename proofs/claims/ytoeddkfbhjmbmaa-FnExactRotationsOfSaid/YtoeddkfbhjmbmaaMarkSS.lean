/- Marking rows of numbers: what the call comes to where each row is memory of its own; no condition but what each theorem names. -/
import Derived.Test.YtoeddkfbhjmbmaaZMore
import Derived.Test.YtoeddkfbhjmbmaaPA29
namespace Go.Proofs.Ytoeddkfbhjmbmaa.PA
open Go.RowKit Go.Proofs.YtoeddkfbhjmbmaaW.PrintWords Go.Proofs.YtoeddkfbhjmbmaaW.PrintLast Go.Proofs.YtoeddkfbhjmbmaaW.PrintMore
set_option linter.unusedVariables false
set_option linter.unusedSimpArgs false
/-- A row among rows: it is memory of its own, and what is laid in its stead makes rows again. -/
theorem S_row {α : Type} {d : Kd α} {e e' base n c : Nat} {w : World} {ok : Nat → Prop} {A : Option Addr} {xs : List (List α)} (h : Kd.S (Kd.slice e' d) e w base ok (.slice A n c) xs) (i : Nat) (hi : i < xs.length) :
    ∃ (ad : Addr) (u : Value) (T : Nat → Prop), A = some ad ∧ w.cell? (ad.add i) = some u ∧ Kd.R d e' w base T u xs[i] ∧ (∀ k, T k → ok k) ∧
      ∀ (w' : World) (x' : List α), Kept w w' T → Kd.R d e' w' base (fun k => T k ∨ w.heap.size ≤ k) u x' → Kd.S (Kd.slice e' d) e w' base (fun k => ok k ∨ w.heap.size ≤ k) (.slice A n c) (xs.set i x') := by
  have hS := h
  obtain ⟨f, h⟩ := h
  obtain ⟨h0, inner, ho, hr⟩ := h
  rw [List.length_zipIdx] at ho
  have hn : n = xs.length := by
    obtain ⟨A', c', e1⟩ := Kd.S_slice hS
    injection e1
  have hx := hr.2 i (xs[i], i) (Kd.zip_at (List.getElem?_eq_getElem hi))
  obtain ⟨u, hu, hR⟩ := hx
  have hsz : (Kd.tag f (Kd.slice e' d)).sz = 1 := rfl
  have hu' : inner[i]? = some u := by
    have hu2 : (inner.drop (i * 1)).take 1 = [u] := hu
    rw [Nat.mul_one] at hu2
    have h3 : ((inner.drop i).take 1)[0]? = some u := by rw [hu2]; rfl
    rw [List.getElem?_take, if_pos (by omega), List.getElem?_drop] at h3
    simpa using h3
  have hil : inner.length = xs.length := by
    have := hr.1
    rw [List.length_zipIdx, hsz, Nat.mul_one] at this
    exact this
  cases A with
  | none =>
    exfalso
    obtain ⟨_, _, hC⟩ := Kd.S_reads' hS
    obtain ⟨ad, e1, _⟩ := hC.2.2 (by omega)
    cases e1
  | some ad =>
    have hg : ∃ g, ad = ⟨g, 0, none⟩ := Kd.R_head (Kd.S_R hS)
    obtain ⟨g, rfl⟩ := hg
    refine ⟨⟨g, 0, none⟩, u, _, rfl, ?_, hR, fun k hk => hk.1.1, fun w' x' hkept hR' => ?_⟩
    · have := ho.cells (g := g) (by simp [Value.ownBlock]) i u hu'
      rwa [← add_plain] at this
    · refine ⟨fun k => if k < w.heap.size then f k else i, fun k hk => .inl (h0 k hk), inner, ?_, ?_, fun j p hj => ?_⟩
      · rw [List.length_zipIdx, List.length_set]
        refine own_move ho fun k hk => hkept.2 k (own_lt ho k hk) fun hT => hT.1.2 hk.symm
      · rw [List.length_zipIdx, List.length_set]
        show inner.length = xs.length * 1
        rw [Nat.mul_one]
        exact hil
      · rw [List.getElem?_zipIdx, Nat.zero_add] at hj
        obtain ⟨x, hx, rfl⟩ := Option.map_eq_some_iff.1 hj
        by_cases hij : i = j
        · subst hij
          rw [List.getElem?_set_self hi] at hx
          obtain rfl := Option.some.inj hx
          refine ⟨u, hu, Kd.R_mono hR' fun k hk => ?_⟩
          rcases hk with ⟨⟨h1, h2⟩, h3⟩ | hk
          · refine ⟨⟨.inl h1, h2⟩, ?_⟩
            show (if k < w.heap.size then f k else i) = i
            split
            · exact h3
            · rfl
          · refine ⟨⟨.inr hk, fun e1 => ?_⟩, ?_⟩
            · have := own_lt ho k e1.symm
              omega
            · show (if k < w.heap.size then f k else i) = i
              rw [if_neg (by omega)]
        · rw [List.getElem?_set_ne hij] at hx
          have hM : (Kd.slice e' d).M w base (fun k => (ok k ∧ some k ≠ (Value.slice (some ⟨g, 0, none⟩) n c).ownBlock) ∧ f k = j) x _ := hr.2 j (x, j) (Kd.zip_at hx)
          have hM1 := (Kd.slice e' d).M_bound hM
          have hM2 := (Kd.slice e' d).M_move (w1 := w') (fun k hk => hkept.2 k hk.2.2.1 fun hT => hij (hT.2.symm.trans hk.1.2)) hM1
          refine (Kd.slice e' d).M_mono (fun k hk => ⟨⟨.inl hk.1.1.1, hk.1.1.2⟩, ?_⟩) hM2
          show (if k < w.heap.size then f k else i) = j
          rw [if_pos hk.2.2.1]
          exact hk.1.2

def laws_markIntSS.l0 : Nat → List (List Int) → Int → Int → Option (Int × List (List Int))
  | 0, _, _, _ => none
  | k + 1, x0, x1, x5 => if x5 < (x0.length : Int) then (if 0 ≤ x5 then ((laws_markIntS.f k (x0.getD (x5 : Int).toNat []) x1).bind fun bt => (laws_markIntSS.l0 k (x0.set (x5 : Int).toNat bt.2) bt.1 (wrap64 (x5 + 1)))) else (none)) else (some (x1, x0))
def laws_markIntSS.f (k : Nat) (l0 : List (List Int)) (a1 : Int) : Option (Int × List (List Int)) := laws_markIntSS.l0 k l0 a1 0
theorem laws_markIntSS.mono_l : ∀ k, (∀ y0 y1 y2, LeO (laws_markIntSS.l0 k y0 y1 y2) (laws_markIntSS.l0 (k + 1) y0 y1 y2))
  | 0 => fun _ _ _ r h => by simp [laws_markIntSS.l0] at h
  | k + 1 => by
    have ih0 := laws_markIntSS.mono_l k
    intro y0 y1 y2
    unfold laws_markIntSS.l0
    repeat' first
      | (with_reducible exact ih0 _ _ _)
      | (with_reducible exact laws_markIntS.mono _ _ _)
      | (with_reducible exact LeO.refl _)
      | (with_reducible exact LeO.none _)
      | (with_reducible refine LeO.ite ?_ ?_)
      | (with_reducible refine LeO.bind ?_ (fun _ => ?_))
theorem laws_markIntSS.mono : ∀ a0 a1 k, LeO (laws_markIntSS.f k a0 a1) (laws_markIntSS.f (k + 1) a0 a1) := fun a0 a1 k => laws_markIntSS.mono_l k a0 a1 0
set_option maxHeartbeats 8000000 in
set_option maxRecDepth 100000 in
theorem laws_markIntSS.calls (k : Nat) (P0_ : Nat → Prop) (u9000_ : Value) (l0 : List (List Int)) (a1 : Int) (r1 : Int) (r2 : List (List Int)) (w0 w : World) (hB : Below w0.heap.size w0 w) (ho0 : Kd.S (Kd.slice 3 (Kd.int .i64)) 22 w w0.heap.size P0_ u9000_ l0) (h : laws_markIntSS.f k l0 a1 = some (r1, r2)) :
    Calls Try.prog 42 #[u9000_, .int .i64 a1] w fun e w' => e = .returned (.int .i64 r1) ∧ Kd.S (Kd.slice 3 (Kd.int .i64)) 22 w' w0.heap.size (fun k_ => (P0_ k_ ∨ w.heap.size ≤ k_)) u9000_ r2 ∧ Below w0.heap.size w0 w' ∧ Kept w w' (fun k_ => P0_ k_) := by
  obtain ⟨A0, c0, e0⟩ := Kd.S_slice ho0
  subst e0
  have HO0 := Aside0.mk (Kd.S_mono ho0 (fun k_ hk => (.inl hk : P0_ k_ ∨ w.heap.size ≤ k_)))
  have HK := Aside0.mk (Kept.refl w (fun k_ => P0_ k_))
  have HB := Aside0.mk hB
  clear hB
  have H : (laws_markIntSS.l0 k l0 a1 0) = some (r1, r2) := h
  clear h
  have H' := Aside0.mk H
  clear H
  have HN : (l0.length : Int) = ((l0.length : Nat) : Int) := rfl
  generalize hn : l0.length = n0 at HO0 ⊢
  clear HN ho0
  go_enter Try.func42, Try.ntmps42
  go_wp2
  go_loopg [1, 5] k (fun kq v1 v5 w' => ∃ (x0_1 : List (List Int)) (x1_1 : Int) (x5_1 : Int), v1 = .int .i64 x1_1 ∧ v5 = .int .i64 x5_1 ∧ Aside0 (laws_markIntSS.l0 kq x0_1 x1_1 x5_1 = some (r1, r2)) ∧ Aside0 (kq ≤ k) ∧ Aside0 (x0_1.length = n0) ∧ Aside0 (Kd.S (Kd.slice 3 (Kd.int .i64)) 22 w' w0.heap.size (fun k_ => (P0_ k_ ∨ w.heap.size ≤ k_)) (.slice A0 n0 c0) x0_1) ∧ Aside0 (Kept w w' (fun k_ => P0_ k_)) ∧ Aside0 (Below w0.heap.size w0 w'))
  case atStart => exact ⟨l0, a1, 0, (by first | rfl | (simp; done)), (by first | rfl | (simp; done)), H', ⟨Nat.le_refl _⟩, ⟨hn⟩, ⟨by (with_reducible repeat (first | apply Kd.S_alloc | apply Kd.S_drewN | apply Kd.S_drew)); exact HO0.out⟩, ⟨by repeat (first | (with_reducible first | exact HK.out | apply Kept.alloc | apply Kept.drewN | apply Kept.drew) | exact HK.out)⟩, ⟨by repeat (first | (with_reducible first | exact HB.out | apply below_alloc | apply pw_below_drewN | apply below_drew1) | exact HB.out)⟩⟩
  case round =>
    clear H' HO0
    try clear p2
    obtain ⟨x0_1, x1_1, x5_1, rfl, rfl, HA, HK1, HL, HO_0, HK, HB⟩ := hrel
    cases gk with
    | zero => exact absurd HA.out (by simp [laws_markIntSS.l0])
    | succ k1 =>
      have H := HA.out
      clear HA
      simp only [laws_markIntSS.l0] at H
      rw [HL.out] at H
      by_cases c3 : x5_1 < (n0 : Int)
      · rw [if_pos c3] at H
        have c3b0 : decide (x5_1 < (n0 : Int)) = true := decide_eq_true c3
        by_cases c4 : 0 ≤ x5_1
        · rw [if_pos c4] at H
          have c4b0 : decide (0 ≤ x5_1) = true := decide_eq_true c4
          obtain ⟨⟨t1, t2⟩, A50, H⟩ := Option.bind_eq_some_iff.mp H
          have H' := Aside0.mk H
          have A5 := Aside0.mk A50
          clear A50 H
          have hi : x5_1.toNat < x0_1.length := by have := HL.out; omega
          obtain ⟨ad, u, T, ea, hcell, hR, hT, hput⟩ := S_row HO_0.out x5_1.toNat hi
          subst ea
          have hget : x0_1.getD x5_1.toNat [] = x0_1[x5_1.toNat] := by simp [List.getD, hi]
          rw [hget] at A5
          obtain ⟨Au, cu, eu⟩ := Kd.R_slice hR
          subst eu
          have HR := Aside0.mk hR
          have HP := Aside0.mk hput
          have HT := Aside0.mk hT
          clear hR hput hT
          replace c4 := eq_true c4
          replace c3 := eq_true c3
          go_wp2_with (first | ((with_reducible refine gate_callee (f := 30) rfl ?_); refine goesL_ (some 17) rfl rfl Try.func30 (by kernel_rfl) rfl #[.slice Au (x0_1[x5_1.toNat]).length cu, .int .i64 x1_1] rfl (by (try simp only [List.map_toArray, List.map_cons, List.map_nil]); first | done | rfl) ?_; (with_reducible refine (laws_markIntS.calls k1 T _ _ x1_1 t1 t2 w0 _ HB.out HR.out A5.out).mono ?_); rintro e w8 ⟨rfl, hR8, hB8, hK8⟩; refine ⟨_, rfl, ?_⟩; have HO8 := Aside0.mk (HP.out w8 t2 hK8 hR8); have HB8 := Aside0.mk hB8; have HK8 := Aside0.mk hK8; clear hR8 hB8 hK8))
          go_roundg k1
          case measure => have := HK1.out; omega
          case rel => exact ⟨_, t1, (wrap64 (x5_1 + 1)), (by first | rfl | (simp; done)), (by first | rfl | (simp; done)), H', ⟨by have := HK1.out; omega⟩, ⟨by rw [List.length_set]; exact HL.out⟩,
            ⟨by (with_reducible repeat (first | apply Kd.S_alloc | apply Kd.S_drewN | apply Kd.S_drew)); exact Kd.S_mono HO8.out (fun k_ hk => hk.elim id (fun h => .inr (Nat.le_trans HK.out.1 h)))⟩,
            ⟨HK.out.then_ HK8.out (fun k_ hk => HT.out k_ hk)⟩, ⟨HB8.out⟩⟩
        · rw [if_neg c4] at H
          exact absurd H (by simp)
      · rw [if_neg c3] at H
        have c3b0 : decide (x5_1 < (n0 : Int)) = false := decide_eq_false c3
        simp only [Option.some.injEq, Prod.mk.injEq] at H
        obtain ⟨rfl, rfl⟩ := H
        go_wp2
        go_ret
        exact ⟨by first | rfl | (simp [errW_none, errW_some] <;> rfl), by (with_reducible repeat (first | apply Kd.S_alloc | apply Kd.S_drewN | apply Kd.S_drew)); exact HO_0.out, by repeat (first | (with_reducible first | exact HB.out | apply below_alloc | apply pw_below_drewN | apply below_drew1) | exact HB.out), by repeat (first | (with_reducible first | exact HK.out | apply Kept.alloc | apply Kept.drewN | apply Kept.drew) | exact HK.out)⟩
end Go.Proofs.Ytoeddkfbhjmbmaa.PA
