/- The law on buckets that are kept; no condition but that the bytes are no more than memory lets them be. -/
import Derived.Test.YthecknnmfghilaaLawBk
import Derived.Test.YthecknnmfghilaaPureBv
import Derived.Test.YthecknnmfghilaaDrawBk
namespace Go.Proofs.Ythecknnmfghilaa.PA
open Go.RowKit Go.Proofs.YthecknnmfghilaaW.PrintWords Go.Proofs.YthecknnmfghilaaW.PrintLast Go.Proofs.YthecknnmfghilaaW.PrintMore
set_option linter.unusedVariables false
set_option linter.unusedSimpArgs false
theorem u8_bytes {l : List Int} (h : ∀ x ∈ l, (Lit.int .u8 x).wf = true) : isBytes l := by
  intro x hx
  have := h x hx
  simp only [Lit.wf, IntKind.min, IntKind.max, IntKind.bits, IntKind.signed, Bool.and_eq_true] at this
  simpa using this
theorem big_tells (l m : List Int) (hll : l.length ≤ 140737488351232) (hml : m.length ≤ 140737488351232) : laws_big.f l m = some (decide (1048576 < l.length) || decide (1048576 < l.length + m.length)) := by
  simp only [laws_big.f]
  by_cases c1 : 1048576 < l.length
  · rw [if_pos (by omega)]
    simp [c1]
  · rw [if_neg (by omega), w64 (x := 1048576 - (l.length : Int)) (by omega) (by omega)]
    simp only [c1, decide_false, Bool.false_or, Option.some.injEq, decide_eq_decide]
    omega
set_option maxHeartbeats 8000000 in
set_option maxRecDepth 100000 in
theorem keeps_big (A : Option Addr) (c : Nat) (l : List Int) (B : Option Addr) (e : Nat) (m : List Int) (W : World) (hA : Kd.C (Kd.int .u8) W A l.length l) (hAL : l.length ≤ c) (hB : Kd.C (Kd.int .u8) W B m.length m) (hBL : m.length ≤ e) (h : laws_big.f l m = some true) :
    Calls Try.prog 4 #[.slice A l.length c, .slice B m.length e] W fun e W' => e = .returned (.bool true) ∧ Below W.heap.size W W' := by
  have HA := Aside0.mk hA
  have HB := Aside0.mk hB
  have HAL := Aside0.mk hAL
  have HBL := Aside0.mk hBL
  have HBig := Aside0.mk h
  clear hA hB hAL hBL h
  go_enter Try.func4, Try.ntmps4
  go_wp2_with fail
  (refine (laws_big.calls A c l B e m true _ HA.out HAL.out HB.out HBL.out HBig.out).mono ?_)
  rintro e w' ⟨rfl, ⟨nd, rfl⟩⟩
  go_wp2_with fail
  go_ret
  exact ⟨rfl, (by repeat (first | exact Below.refl _ _ | apply pw_below_drewN | apply below_drew))⟩
theorem lev_bound (r d : Int) (l : List Int) (hr : 1 ≤ r) (hd : 0 ≤ d) : ∀ v, 0 ≤ v → v ≤ d → kp r d v l = true → ∀ i : Nat, i < l.length → 0 ≤ rd (lev r d v l) i := by
  induction l with
  | nil => intro v h0 hv h i hi; simp at hi
  | cons x l ih =>
    intro v h0 hv h i hi
    simp only [kp, Bool.and_eq_true, decide_eq_true_eq] at h
    cases i with
    | zero => simpa [rd, lev] using h0
    | succ i =>
      have e2 : rd (lev r d v (x :: l)) ((i + 1 : Nat) : Int) = rd (lev r d (mn d (v - x + r)) l) (i : Int) := rd_cons_s _ _ _
      rw [e2]
      exact ih _ (mn_ge hd (by omega)) (mn_le.mp (Int.le_refl _)).1 h.2 i (by simpa using hi)
theorem core_FnBucketsKept (A : Option Addr) (c : Nat) (l : List Int) (B : Option Addr) (e : Nat) (m : List Int) (W : World)
    (h : Kd.C (Kd.int .u8) W A l.length l ∧ l.length ≤ c ∧ l.length ≤ 140737488351232 ∧ ∀ x ∈ l, (Lit.int .u8 x).wf = true)
    (g : Kd.C (Kd.int .u8) W B m.length m ∧ m.length ≤ e ∧ m.length ≤ 140737488351232 ∧ ∀ x ∈ m, (Lit.int .u8 x).wf = true) :
    Calls Try.prog 4 #[.slice A l.length c, .slice B m.length e] W fun e W' => e = .returned (.bool true) ∧ Below W.heap.size W W' := by
  have hlb := u8_bytes h.2.2.2
  have hmb := u8_bytes g.2.2.2
  have hbig := big_tells l m h.2.2.1 g.2.2.1
  cases cb : (decide (1048576 < l.length) || decide (1048576 < l.length + m.length))
  rotate_left
  · exact keeps_big A c l B e m W h.1 h.2.1 g.1 g.2.1 (by rw [hbig, cb])
  · have hlen : l.length ≤ 1048576 ∧ l.length + m.length ≤ 1048576 := by simpa using cb
    obtain ⟨r, d, X, ⟨K1, d1⟩, lX⟩ := drawLevels_tells hlb (by omega)
    obtain ⟨ra, Y, ⟨K2, d2⟩, lY⟩ := drawLeastDepth_tells hmb (by omega)
    obtain ⟨deep, Z, ⟨K3, d3⟩, lZ⟩ := drawLeastRate_tells hmb (by omega)
    obtain ⟨xa, xb, ya, yb, V, ⟨K4, d4⟩, lV⟩ := drawKeepsBoth_tells hmb (by omega)
    obtain ⟨⟨K5, i1⟩, ⟨K6, s1⟩⟩ := levelsOf_tells r d X
    obtain ⟨⟨K7, i2⟩, ⟨K8, s2⟩⟩ := keepsBucket_tells r d X
    obtain ⟨⟨K9, i3⟩, ⟨K10, s3⟩⟩ := firstBreach_tells r d X
    obtain ⟨dep, told, ⟨K11, i4⟩, ⟨K12, s4⟩, hld⟩ := leastDepth_tells ra Y
    obtain ⟨⟨K13, i5⟩, ⟨K14, s5⟩⟩ := leastRate_tells deep Z
    obtain ⟨⟨K15, i6⟩, ⟨K16, s6⟩⟩ := keepsBoth_tells xa xb ya yb V
    obtain ⟨LV, ok, eLV⟩ : ∃ LV ok, levR r d X = (LV, ok) := ⟨_, _, rfl⟩
    obtain ⟨kps, one, eKB⟩ : ∃ kps one, kbR r d X = (kps, one) := ⟨_, _, rfl⟩
    obtain ⟨FB, three, eFB⟩ : ∃ FB three, fbR r d X = (FB, three) := ⟨_, _, rfl⟩
    obtain ⟨lst, five, eLR⟩ : ∃ lst five, lrR deep Z = (lst, five) := ⟨_, _, rfl⟩
    obtain ⟨both, nine, eBo⟩ : ∃ both nine, (if (isBk xa xb && isBk ya yb && isTr V) = true then (kp xa xb xb V && kp ya yb yb V, true) else (false, false)) = (both, nine) := ⟨_, _, rfl⟩
    rw [eLV] at i1 s1
    rw [eKB] at i2 s2
    rw [eFB] at i3 s3
    rw [eLR] at i5 s5
    rw [eBo] at i6 s6
    -- the first bucket: its three ways
    have hway : (kps = false ∧ ok = false ∧ one = false ∧ three = false ∧ LV = [] ∧ FB = [] ∧ ((isBk r d = false) ∨ (isBk r d = true ∧ isTr X = false))) ∨
        (isBk r d = true ∧ isTr X = true ∧ kp r d d X = true ∧ kps = true ∧ ok = true ∧ one = true ∧ three = false ∧ LV = lev r d d X ∧ FB = []) ∨
        (isBk r d = true ∧ isTr X = true ∧ kps = false ∧ ok = false ∧ one = true ∧ three = true ∧ LV = [] ∧ ∃ s u : Nat, FB = [(s : Int), (u : Int)] ∧ s ≤ u ∧ u < X.length ∧ win X s u > d + r * ((u - s : Nat) : Int) ∧ kbR r d (X.take u) = (true, true)) := by
      by_cases cc : isBk r d = true ∧ isTr X = true
      · rcases fb_facts r d X cc.1 cc.2 with ⟨f1, f2⟩ | ⟨f1, s, u, f2, f3⟩
        · rw [f2] at eFB
          simp only [levR, kbR, cc.1, cc.2, f1, Bool.and_self, if_true, Prod.mk.injEq] at eLV eKB eFB
          exact .inr (.inl ⟨cc.1, cc.2, f1, eKB.1.symm, eLV.2.symm, eKB.2.symm, eFB.2.symm, eLV.1.symm, eFB.1.symm⟩)
        · rw [f2] at eFB
          simp only [levR, kbR, cc.1, cc.2, f1, Bool.and_self, Bool.and_false, if_true, Prod.mk.injEq, if_neg (show ¬ false = true by decide)] at eLV eKB eFB
          exact .inr (.inr ⟨cc.1, cc.2, eKB.1.symm, eLV.2.symm, eKB.2.symm, eFB.2.symm, eLV.1.symm, s, u, eFB.1.symm, f3⟩)
      · have cn : ¬ (isBk r d && isTr X) = true := by simpa using cc
        have cm : ¬ (isBk r d && isTr X && kp r d d X) = true := fun hh => cn (by rw [Bool.and_eq_true] at hh; exact hh.1)
        simp only [levR, kbR, fbR, if_neg cn, if_neg cm, Prod.mk.injEq] at eLV eKB eFB
        refine .inl ⟨eKB.1.symm, eLV.2.symm, eKB.2.symm, eFB.2.symm, eLV.1.symm, eFB.1.symm, ?_⟩
        cases c1 : isBk r d
        · exact .inl rfl
        · cases c2 : isTr X
          · exact .inr ⟨rfl, rfl⟩
          · exact absurd ⟨c1, c2⟩ cc
    have hko : kps = ok := by rcases hway with ⟨a, b, _⟩ | ⟨_, _, _, a, b, _⟩ | ⟨_, _, a, b, _⟩ <;> rw [a, b]
    subst hko
    have lLV : LV.length ≤ 1000 := by
      rcases hway with ⟨_, _, _, _, a, _⟩ | ⟨_, _, _, _, _, _, _, a, _⟩ | ⟨_, _, _, _, _, _, a, _⟩ <;> rw [a]
      · simp
      · rw [lev_length]; omega
      · simp
    have lFB : FB.length ≤ 1000 := by
      rcases hway with ⟨_, _, _, _, _, a, _⟩ | ⟨_, _, _, _, _, _, _, _, a⟩ | ⟨_, _, _, _, _, _, _, s, u, a, _⟩ <;> rw [a] <;> simp
    obtain ⟨K17, e1⟩ := same_self LV (by omega)
    obtain ⟨K18, e2⟩ := same_self FB (by omega)
    have hcase : (kps = false ∧ one = false ∧ three = false ∧ isBk r d = false) ∨ (kps = false ∧ one = false ∧ three = false ∧ isBk r d = true ∧ isTr X = false) ∨ (kps = true ∧ one = true ∧ three = false ∧ isBk r d = true ∧ isTr X = true) ∨ (kps = false ∧ one = true ∧ three = true ∧ isBk r d = true ∧ isTr X = true) := by
      rcases hway with ⟨a, _, b, c, _, _, d1 | ⟨d1, d2⟩⟩ | ⟨a1, a2, _, b1, _, b2, b3, _⟩ | ⟨a1, a2, b1, _, b2, b3, _⟩
      · exact .inl ⟨a, b, c, d1⟩
      · exact .inr (.inl ⟨a, b, c, d1, d2⟩)
      · exact .inr (.inr (.inl ⟨b1, b2, b3, a1, a2⟩))
      · exact .inr (.inr (.inr ⟨b1, b2, b3, a1, a2⟩))
    have hlv : kps = true → LV.length = X.length ∧ X.length ≤ 40 ∧ ∀ j : Nat, j < X.length → decide (rd LV j < rd X j) = false ∧ decide (rd LV j > d) = false ∧ (0 < j → decide (rd LV j > wrap64 (wrap64 (rd LV ((j - 1 : Nat) : Int) - rd X ((j - 1 : Nat) : Int)) + r)) = false) := by
      intro hk
      rcases hway with ⟨a, _⟩ | ⟨a1, a2, a3, _, _, _, _, a4, _⟩ | ⟨_, _, a, _⟩
      · rw [a] at hk; cases hk
      · obtain ⟨hr, hd⟩ := isBk_iff.mp a1
        obtain ⟨hx1, hx2⟩ := isTr_iff.mp a2
        rw [a4]
        refine ⟨lev_length _ _ _ _, hx1, fun j hj => ?_⟩
        obtain ⟨f1, f2, f3⟩ := lev_at r d X d (Int.le_refl _) a3 j hj
        refine ⟨decide_eq_false (by omega), decide_eq_false (by omega), fun h0 => ?_⟩
        have f3 := f3 h0
        have b1 := lev_bound r d X hr.1 (by omega) d (by omega) (Int.le_refl _) a3 (j - 1) (by omega)
        have b2 := (lev_at r d X d (Int.le_refl _) a3 (j - 1) (by omega)).2.1
        have b3 := hx2 X[j - 1] (List.getElem_mem (by omega))
        rw [← rd_at X (j - 1) (by omega)] at b3
        generalize rd (lev r d d X) ((j - 1 : Nat) : Int) = p1 at *
        generalize rd X ((j - 1 : Nat) : Int) = p2 at *
        rw [w64 (x := p1 - p2) (by omega) (by omega), w64 (by omega) (by omega)]
        exact decide_eq_false (by omega)
      · rw [a] at hk; cases hk
    obtain ⟨S, U, sm, K19, hbr⟩ : ∃ S U sm : Int, ∃ K, ∀ k, K ≤ k → three = true → 0 ≤ S ∧ S ≤ U ∧ U < X.length ∧ X.length ≤ 40 ∧ FB = [S, U] ∧ laws_kSum.f k ((X.take (wrap64 (U + 1)).toNat).drop S.toNat) = some sm ∧ decide (sm ≤ wrap64 (d + wrap64 (r * wrap64 (U - S)))) = false ∧ impl_KeepsBucket.f k r d (X.take U.toNat) = some (true, true) := by
      rcases hway with ⟨_, _, _, a, _⟩ | ⟨_, _, _, _, _, _, a, _⟩ | ⟨a1, a2, _, _, _, _, _, s, u, f1, f2, f3, f4, f5⟩
      · exact ⟨0, 0, 0, 0, fun k _ hk => by rw [a] at hk; cases hk⟩
      · exact ⟨0, 0, 0, 0, fun k _ hk => by rw [a] at hk; cases hk⟩
      · obtain ⟨hr, hd⟩ := isBk_iff.mp a1
        obtain ⟨hx1, hx2⟩ := isTr_iff.mp a2
        obtain ⟨_, ⟨Ka, ha⟩⟩ := win_tells X a2 s u
        obtain ⟨⟨Kb, hb⟩, _⟩ := keepsBucket_tells r d (X.take u)
        rw [f5] at hb
        have hrb := rate_bound hr (u - s) (by omega)
        refine ⟨s, u, win X s u, Ka + Kb, fun k hk _ => ⟨by omega, by omega, by omega, hx1, f1, ?_, ?_, ?_⟩⟩
        · rw [w64 (by omega) (by omega), show ((u : Int) + 1).toNat = u + 1 by omega, Int.toNat_natCast]
          exact ha k (by omega)
        · rw [w64 (x := (u : Int) - (s : Int)) (by omega) (by omega), show (u : Int) - (s : Int) = ((u - s : Nat) : Int) by omega, w64 (x := r * ((u - s : Nat) : Int)) (by omega) (by omega), w64 (by omega) (by omega)]
          exact decide_eq_false (by omega)
        · rw [Int.toNat_natCast]
          exact hb k (by omega)
    obtain ⟨six, K20, hT⟩ : ∃ six : Bool, ∃ K, ∀ k, K ≤ k → told = true → impl_KeepsBucket.f k ra dep Y = some (true, true) ∧ impl_KeepsBucket.f k ra (wrap64 (dep - 1)) Y = some (false, six) := by
      cases told
      · exact ⟨true, 0, fun _ _ h => by cases h⟩
      · obtain ⟨f1, six, f2⟩ := ld_facts hld
        obtain ⟨⟨Ka, ha⟩, _⟩ := keepsBucket_tells ra dep Y
        obtain ⟨⟨Kb, hb⟩, _⟩ := keepsBucket_tells ra (dep - 1) Y
        rw [f1] at ha
        rw [f2] at hb
        have hdep : 1 ≤ dep ∧ dep ≤ 1000 := by
          rcases hld with ⟨_, y, h2, h3⟩ | ⟨_, _, h3⟩
          · rcases h3 with ⟨_, _, h⟩ | ⟨h3, h4, _⟩
            · cases h
            · exact ⟨by rw [h4]; exact h2.1, by omega⟩
          · cases h3
        exact ⟨six, Ka + Kb, fun k hk _ => ⟨ha k (by omega), by rw [w64 (by omega) (by omega)]; exact hb k (by omega)⟩⟩
    obtain ⟨eight, K21, hF⟩ : ∃ eight : Bool, ∃ K, ∀ k, K ≤ k → five = true → impl_KeepsBucket.f k lst deep Z = some (true, true) ∧ impl_KeepsBucket.f k (wrap64 (lst - 1)) deep Z = some (false, eight) := by
      cases five
      · exact ⟨true, 0, fun _ _ h => by cases h⟩
      · obtain ⟨f1, six, f2⟩ := lr_facts eLR
        obtain ⟨⟨Ka, ha⟩, _⟩ := keepsBucket_tells lst deep Z
        obtain ⟨⟨Kb, hb⟩, _⟩ := keepsBucket_tells (lst - 1) deep Z
        have hl1 : 1 ≤ lst ∧ lst ≤ 100 := by
          by_cases cc : (isBk lst deep && isTr Z) = true
          · rw [Bool.and_eq_true] at cc
            exact (isBk_iff.mp cc.1).1
          · rw [kbR, if_neg cc] at f1
            cases f1
        rw [f1] at ha
        rw [f2] at hb
        exact ⟨six, Ka + Kb, fun k hk _ => ⟨ha k (by omega), by rw [w64 (by omega) (by omega)]; exact hb k (by omega)⟩⟩
    obtain ⟨ka, kb, K22, hN⟩ : ∃ ka kb : Bool, ∃ K, ∀ k, K ≤ k → nine = true → impl_KeepsBucket.f k xa xb V = some (ka, true) ∧ impl_KeepsBucket.f k ya yb V = some (kb, true) ∧ both = (ka && kb) := by
      by_cases cc : (isBk xa xb && isBk ya yb && isTr V) = true
      · rw [if_pos cc] at eBo
        simp only [Bool.and_eq_true] at cc
        obtain ⟨⟨Ka, ha⟩, _⟩ := keepsBucket_tells xa xb V
        obtain ⟨⟨Kb, hb⟩, _⟩ := keepsBucket_tells ya yb V
        have q1 : kbR xa xb V = (kp xa xb xb V, true) := by simp [kbR, cc.1.1, cc.2]
        have q2 : kbR ya yb V = (kp ya yb yb V, true) := by simp [kbR, cc.1.2, cc.2]
        rw [q1] at ha
        rw [q2] at hb
        exact ⟨_, _, Ka + Kb, fun k hk _ => ⟨ha k (by omega), hb k (by omega), (Prod.mk.inj eBo).1.symm⟩⟩
      · rw [if_neg cc] at eBo
        exact ⟨true, true, 0, fun _ _ h => by rw [← (Prod.mk.inj eBo).2] at h; cases h⟩
    generalize hK : K1 + K2 + K3 + K4 + K5 + K6 + K7 + K8 + K9 + K10 + K11 + K12 + K13 + K14 + K15 + K16 + K17 + K18 + K19 + K20 + K21 + K22 = K
    exact keeps_walk A c l B e m W h.1 h.2.1 g.1 g.2.1 K X LV FB Y Z V r d S U sm ra dep deep lst xa xb ya yb kps one three (isBk r d) (isTr X) told six five eight nine both ka kb
      (by rw [hbig, cb]) (d1 K (by omega)) (i1 K (by omega)) (s1 K (by omega)) (i2 K (by omega)) (s2 K (by omega)) (i3 K (by omega)) (s3 K (by omega)) (e1 K (by omega)) (e2 K (by omega)) (isBucket_tells r d) (isTraffic_tells X) hcase hlv (hbr K (by omega))
      (d2 K (by omega)) (i4 K (by omega)) (s4 K (by omega)) (hT K (by omega)) (d3 K (by omega)) (i5 K (by omega)) (s5 K (by omega)) (hF K (by omega)) (d4 K (by omega)) (i6 K (by omega)) (s6 K (by omega)) (hN K (by omega))
end Go.Proofs.Ythecknnmfghilaa.PA
