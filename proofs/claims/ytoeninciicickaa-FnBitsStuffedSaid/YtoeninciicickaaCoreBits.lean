/- The law on stuffed bits; no condition but that the bytes are no more than memory lets them be. -/
import Derived.Test.YtoeninciicickaaLawBits
import Derived.Test.YtoeninciicickaaPureFrom
import Derived.Test.YtoeninciicickaaDrawBits
import Derived.Test.YtoeninciicickaaDrawBytes
namespace Go.Proofs.Ytoeninciicickaa.PA
open Go.RowKit Go.Proofs.YtoeninciicickaaW.PrintWords Go.Proofs.YtoeninciicickaaW.PrintLast Go.Proofs.YtoeninciicickaaW.PrintMore
set_option linter.unusedVariables false
theorem u8_bytes {l : List Int} (h : ∀ x ∈ l, (Lit.int .u8 x).wf = true) : isBytes l := by
  intro x hx
  have := h x hx
  simp only [Lit.wf, IntKind.min, IntKind.max, IntKind.bits, IntKind.signed, Bool.and_eq_true] at this
  simpa using this
theorem row_of (l : List Int) (hb : isBits l) : ∀ r : Int, 0 ≤ r → rowOk r l = true → r ≤ 5 → ∀ j, j ≤ l.length → 0 ≤ rowTo r l j ∧ rowTo r l j ≤ 5 := by
  induction l with
  | nil => intro r h0 h h5 j hj; simp [rowTo]; omega
  | cons x l ih =>
    intro r h0 h h5 j hj
    obtain ⟨hx, hl⟩ := bits_cons hb
    simp only [rowOk, Bool.and_eq_true, decide_eq_true_eq] at h
    cases j with
    | zero => simp only [rowTo]; omega
    | succ j =>
      simp only [rowTo]
      refine ih hl _ ?_ h.2 h.1 j (by simpa using hj)
      rcases hx with rfl | rfl <;> omega
set_option maxHeartbeats 8000000 in
set_option maxRecDepth 100000 in
theorem bits_big (A : Option Addr) (c : Nat) (l : List Int) (B : Option Addr) (e : Nat) (m : List Int) (W : World) (hA : Kd.C (Kd.int .u8) W A l.length l) (hAL : l.length ≤ c) (hB : Kd.C (Kd.int .u8) W B m.length m) (hBL : m.length ≤ e) (h : laws_big.f l m = some true) :
    Calls Try.prog 3 #[.slice A l.length c, .slice B m.length e] W fun e W' => e = .returned (.bool true) ∧ Below W.heap.size W W' := by
  have HA := Aside0.mk hA
  have HB := Aside0.mk hB
  have HAL := Aside0.mk hAL
  have HBL := Aside0.mk hBL
  have HBig := Aside0.mk h
  clear hA hB hAL hBL h
  go_enter Try.func3, Try.ntmps3
  go_wp2_with fail
  (refine (laws_big.calls A c l B e m true _ HA.out HAL.out HB.out HBL.out HBig.out).mono ?_)
  rintro e w' ⟨rfl, ⟨nd, rfl⟩⟩
  go_wp2_with fail
  go_ret
  exact ⟨rfl, (by repeat (first | exact Below.refl _ _ | apply pw_below_drewN | apply below_drew))⟩
theorem core_FnBitsStuffed (A : Option Addr) (c : Nat) (l : List Int) (B : Option Addr) (e : Nat) (m : List Int) (W : World)
    (h : Kd.C (Kd.int .u8) W A l.length l ∧ l.length ≤ c ∧ l.length ≤ 140737488351232 ∧ ∀ x ∈ l, (Lit.int .u8 x).wf = true)
    (g : Kd.C (Kd.int .u8) W B m.length m ∧ m.length ≤ e ∧ m.length ≤ 140737488351232 ∧ ∀ x ∈ m, (Lit.int .u8 x).wf = true) :
    Calls Try.prog 3 #[.slice A l.length c, .slice B m.length e] W fun e W' => e = .returned (.bool true) ∧ Below W.heap.size W W' := by
  have hlb := u8_bytes h.2.2.2
  have hmb := u8_bytes g.2.2.2
  have hll := h.2.2.1
  have hml := g.2.2.1
  have hbig : laws_big.f l m = some (decide (1048576 < l.length) || decide (1048576 < l.length + m.length)) := by
    simp only [laws_big.f]
    by_cases c1 : 1048576 < l.length
    · rw [if_pos (by omega)]
      simp [c1]
    · rw [if_neg (by omega), w64 (x := 1048576 - (l.length : Int)) (by omega) (by omega)]
      simp only [c1, decide_false, Bool.false_or, Option.some.injEq, decide_eq_decide]
      omega
  cases cb : (decide (1048576 < l.length) || decide (1048576 < l.length + m.length))
  rotate_left
  · exact bits_big A c l B e m W h.1 h.2.1 g.1 g.2.1 (by rw [hbig, cb])
  · have hlen : l.length ≤ 1048576 ∧ l.length + m.length ≤ 1048576 := by simpa using cb
    obtain ⟨X, _, ⟨K1, d1⟩, lX⟩ := drawFrom_tells hlb (by omega)
    obtain ⟨Y, ⟨K2, d2⟩, lY⟩ := drawUnstuff_tells hmb (by omega)
    obtain ⟨Z, ⟨K3, d3⟩, lZ⟩ := drawBytes_tells hmb (by omega)
    obtain ⟨V, ⟨K4, d4⟩, _, lV⟩ := drawFrom_tells hmb (by omega)
    obtain ⟨⟨K5, i1⟩, ⟨K6, s1⟩⟩ := stuffBits_tells X (by omega)
    obtain ⟨⟨K7, i2⟩, ⟨K8, s2⟩⟩ := unstuffBits_tells Y (by omega)
    obtain ⟨⟨K9, i3⟩, ⟨K10, s3⟩⟩ := bitsOf_tells Z (by omega)
    obtain ⟨⟨K11, i4⟩, ⟨K12, s4⟩⟩ := fromBits_tells V (by omega)
    obtain ⟨R, ok, eR⟩ : ∃ R ok, stuffR X = (R, ok) := ⟨_, _, rfl⟩
    obtain ⟨Q, one, eQ⟩ : ∃ Q one, unstuffR Y = (Q, one) := ⟨_, _, rfl⟩
    obtain ⟨T, three, eT⟩ : ∃ T three, bitsR Z = (T, three) := ⟨_, _, rfl⟩
    obtain ⟨U, five, eU⟩ : ∃ U five, fromR V = (U, five) := ⟨_, _, rfl⟩
    rw [eR] at i1 s1
    rw [eQ] at i2 s2
    rw [eT] at i3 s3
    rw [eU] at i4 s4
    have lR : R.length ≤ 1000 := by
      cases ok
      · unfold stuffR at eR
        split at eR
        · split at eR
          · cases eR
          · cases eR; simp
        · cases eR; simp
      · have := (stuff_back eR).2.2.2.1; omega
    have lQ : Q.length ≤ 1000 := by
      cases one
      · unfold unstuffR plainR at eQ
        split at eQ
        · split at eQ
          · cases eQ; simp
          · cases eQ
        · cases eQ; simp
      · have := (unstuff_back eQ).2; omega
    have lT : T.length ≤ 1000 := by
      cases three
      · unfold bitsR at eT
        split at eT
        · cases eT
        · cases eT; simp
      · have := (bits_back eT).2; omega
    have lU : U.length ≤ 1000 := by
      cases five
      · unfold fromR at eU
        split at eU
        · split at eU
          · cases eU
          · cases eU; simp
        · cases eU; simp
      · have := (from_back eU).2; omega
    obtain ⟨K13, eR1⟩ := same_self R (by omega)
    obtain ⟨K14, eX1⟩ := same_self X (by omega)
    obtain ⟨K15, eQ1⟩ := same_self Q (by omega)
    obtain ⟨K16, eY1⟩ := same_self Y (by omega)
    obtain ⟨K17, eT1⟩ := same_self T (by omega)
    obtain ⟨K18, eU1⟩ := same_self U (by omega)
    obtain ⟨K19, eZ1⟩ := same_self Z (by omega)
    obtain ⟨K20, eV1⟩ := same_self V (by omega)
    obtain ⟨K21, b1⟩ : ∃ K, ∀ k, K ≤ k → ok = true → impl_UnstuffBits.f k R = some (X, true) ∧ laws_zSum.f k R = some X.sum ∧ laws_zSum.f k X = some X.sum := by
      cases ok
      · exact ⟨0, fun _ _ h => by cases h⟩
      · obtain ⟨f1, f2, f3, f4, f5, f6⟩ := stuff_back eR
        obtain ⟨⟨Ka, ha⟩, _⟩ := unstuffBits_tells R (by omega)
        obtain ⟨Kb, hb⟩ := zSum_tells R f2 (by omega)
        obtain ⟨Kc, hc⟩ := zSum_tells X f3 (by omega)
        rw [f1] at ha
        rw [f5] at hb
        exact ⟨Ka + Kb + Kc, fun k hk _ => ⟨ha k (by omega), hb k (by omega), hc k (by omega)⟩⟩
    have brow : ok = true → ∀ j, j ≤ R.length → 0 ≤ rowTo 0 R j ∧ rowTo 0 R j ≤ 5 := by
      intro hok
      subst hok
      obtain ⟨f1, f2, f3, f4, f5, f6⟩ := stuff_back eR
      exact row_of R f2 0 (by omega) f6 (by omega)
    obtain ⟨K22, b2⟩ : ∃ K, ∀ k, K ≤ k → one = true → impl_StuffBits.f k Q = some (Y, true) := by
      cases one
      · exact ⟨0, fun _ _ h => by cases h⟩
      · obtain ⟨⟨Ka, ha⟩, _⟩ := stuffBits_tells Q (by omega)
        rw [(unstuff_back eQ).1] at ha
        exact ⟨Ka, fun k hk _ => ha k hk⟩
    obtain ⟨K23, b3⟩ : ∃ K, ∀ k, K ≤ k → three = true → impl_FromBits.f k T = some (Z, true) ∧ T.length = 8 * Z.length ∧ Z.length ≤ 40 := by
      cases three
      · exact ⟨0, fun _ _ h => by cases h⟩
      · obtain ⟨⟨Ka, ha⟩, _⟩ := fromBits_tells T (by omega)
        obtain ⟨f1, f2⟩ := bits_back eT
        rw [f1] at ha
        exact ⟨Ka, fun k hk _ => ⟨ha k hk, f2⟩⟩
    obtain ⟨K24, b4⟩ : ∃ K, ∀ k, K ≤ k → five = true → impl_BitsOf.f k U = some (V, true) := by
      cases five
      · exact ⟨0, fun _ _ h => by cases h⟩
      · obtain ⟨⟨Ka, ha⟩, _⟩ := bitsOf_tells U (by omega)
        rw [(from_back eU).1] at ha
        exact ⟨Ka, fun k hk _ => ha k hk⟩
    generalize hK : K1 + K2 + K3 + K4 + K5 + K6 + K7 + K8 + K9 + K10 + K11 + K12 + K13 + K14 + K15 + K16 + K17 + K18 + K19 + K20 + K21 + K22 + K23 + K24 = K
    exact bits_walk A c l B e m W h.1 h.2.1 g.1 g.2.1 K X R Y Q Z T V U ok one three five X.sum lR (by rw [hbig, cb]) (d1 K (by omega)) (i1 K (by omega)) (s1 K (by omega)) (eR1 K (by omega)) (fun h => (b1 K (by omega) h).1) (eX1 K (by omega)) (fun h => (b1 K (by omega) h).2) brow
      (d2 K (by omega)) (i2 K (by omega)) (s2 K (by omega)) (eQ1 K (by omega)) (b2 K (by omega)) (eY1 K (by omega)) (d3 K (by omega)) (i3 K (by omega)) (s3 K (by omega)) (eT1 K (by omega)) (d4 K (by omega)) (i4 K (by omega)) (s4 K (by omega)) (eU1 K (by omega)) (b3 K (by omega)) (eZ1 K (by omega)) (b4 K (by omega)) (eV1 K (by omega))
end Go.Proofs.Ytoeninciicickaa.PA
