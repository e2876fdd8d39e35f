/- The law on bounds; no condition but that the bytes are no more than memory lets them be. -/
import Derived.Test.YtoeddkfbhjmbmaaLawBd
import Derived.Test.YtoeddkfbhjmbmaaPureBm
import Derived.Test.YtoeddkfbhjmbmaaDrawBd
namespace Go.Proofs.Ytoeddkfbhjmbmaa.PB
open Go.RowKit Go.Proofs.YtoeddkfbhjmbmaaW.PrintWords Go.Proofs.YtoeddkfbhjmbmaaW.PrintLast Go.Proofs.YtoeddkfbhjmbmaaW.PrintMore
set_option linter.unusedVariables false
set_option linter.unusedSimpArgs false
namespace Bd
theorem u8_bytes {l : List Int} (h : ∀ x ∈ l, (Lit.int .u8 x).wf = true) : isBytes l := by
  intro x hx
  have := h x hx
  simp only [Lit.wf, IntKind.min, IntKind.max, IntKind.bits, IntKind.signed, Bool.and_eq_true] at this
  simpa using this
theorem big_tells (l m : List Int) (hll : l.length ≤ 140737488351232) (hml : m.length ≤ 140737488351232) : laws_big.f l m = some (decide (1048576 < l.length) || decide (1048576 < l.length + m.length)) := by
  simp only [laws_big.f]
  by_cases c1 : 1048576 < l.length
  · rw [if_pos (by omega)]
    simp [c1]
  · rw [if_neg (by omega), w64 (x := 1048576 - (l.length : Int)) (by omega) (by omega)]
    simp only [c1, decide_false, Bool.false_or, Option.some.injEq, decide_eq_decide]
    omega
set_option maxHeartbeats 8000000 in
set_option maxRecDepth 100000 in
theorem bounds_big (A : Option Addr) (c : Nat) (l : List Int) (B : Option Addr) (e : Nat) (m : List Int) (W : World) (hA : Kd.C (Kd.int .u8) W A l.length l) (hAL : l.length ≤ c) (hB : Kd.C (Kd.int .u8) W B m.length m) (hBL : m.length ≤ e) (h : laws_big.f l m = some true) :
    Calls Try.prog 13 #[.slice A l.length c, .slice B m.length e] W fun e W' => e = .returned (.bool true) ∧ Below W.heap.size W W' := by
  have HA := Aside0.mk hA
  have HB := Aside0.mk hB
  have HAL := Aside0.mk hAL
  have HBL := Aside0.mk hBL
  have HBig := Aside0.mk h
  clear hA hB hAL hBL h
  go_enter Try.func13, Try.ntmps13
  go_wp2_with fail
  (refine (laws_big.calls A c l B e m true _ HA.out HAL.out HB.out HBL.out HBig.out).mono ?_)
  rintro e w' ⟨rfl, ⟨nd, rfl⟩⟩
  go_wp2_with fail
  go_ret
  exact ⟨rfl, (by repeat (first | exact Below.refl _ _ | apply pw_below_drewN | apply below_drew))⟩
/-- What a server that is told to serve tells. -/
theorem served_true {vr vl : Int} {X : List Int} (h : (servedR vr vl X).2.2.2 = true) : isSv vr vl = true ∧ isTr X = true ∧ Srv.Ok X vr ∧ ∃ T : Nat, servedR vr vl X = (Srv.outs X vr vl T, Srv.most X vr vl T, Srv.D X vr vl T, true) ∧ ¬ Srv.go X vr vl T = true := by
  unfold servedR at h ⊢
  split at h
  · rename_i ha
    rw [if_pos ha]
    have hok := asked_ok ha
    have ha2 := ha
    simp only [askedB, Bool.and_eq_true, decide_eq_true_eq] at ha2
    refine ⟨by simp [isSv, ha2.1.1, ha2.1.2], by simp only [isTr, Bool.and_eq_true, decide_eq_true_eq]; exact ⟨by omega, ha2.2.2⟩, hok, ?_⟩
    cases e : Srv.search X vr vl 100 0 with
    | none => rw [e] at h; cases h
    | some T => exact ⟨T, rfl, (Srv.search_stop 100 0 T e rfl).1⟩
  · cases h
theorem core_FnBoundsHold (A : Option Addr) (c : Nat) (l : List Int) (B : Option Addr) (e : Nat) (m : List Int) (W : World)
    (h : Kd.C (Kd.int .u8) W A l.length l ∧ l.length ≤ c ∧ l.length ≤ 140737488351232 ∧ ∀ x ∈ l, (Lit.int .u8 x).wf = true)
    (g : Kd.C (Kd.int .u8) W B m.length m ∧ m.length ≤ e ∧ m.length ≤ 140737488351232 ∧ ∀ x ∈ m, (Lit.int .u8 x).wf = true) :
    Calls Try.prog 13 #[.slice A l.length c, .slice B m.length e] W fun e W' => e = .returned (.bool true) ∧ Below W.heap.size W W' := by
  have hlb := u8_bytes h.2.2.2
  have hmb := u8_bytes g.2.2.2
  have hbig := big_tells l m h.2.2.1 g.2.2.1
  cases cb : (decide (1048576 < l.length) || decide (1048576 < l.length + m.length))
  rotate_left
  · exact bounds_big A c l B e m W h.1 h.2.1 g.1 g.2.1 (by rw [hbig, cb])
  · have hlen : l.length ≤ 1048576 ∧ l.length + m.length ≤ 1048576 := by simpa using cb
    obtain ⟨vr, vl, X, ⟨K1, d1⟩, lX⟩ := drawServed_tells hlb (by omega)
    obtain ⟨wr, wl, br, bd, d2⟩ := drawBound_tells hmb (by omega)
    obtain ⟨pa, pb, qa, qb, d3⟩ := drawInRow_tells hmb (by omega)
    obtain ⟨ca, cb', n, d4⟩ := drawWorst_tells hmb (by omega)
    obtain ⟨⟨K2, i1⟩, ⟨K3, s1⟩⟩ := servedBy_tells vr vl X (by omega)
    obtain ⟨⟨K4, i2⟩, ⟨K5, s2⟩⟩ := backlog_tells vr vl X (by omega)
    obtain ⟨⟨K6, i3⟩, ⟨K7, s3⟩⟩ := delay_tells vr vl X (by omega)
    obtain ⟨K8, kb⟩ := keepsBucket_tells br bd X
    obtain ⟨⟨K9, r1⟩, ⟨K10, r2⟩⟩ := inRow_tells pa pb qa qb
    obtain ⟨⟨K11, r3⟩, _⟩ := inRow_tells qa qb pa pb
    rw [← irR_comm pa pb qa qb] at r3
    obtain ⟨⟨K12, w1⟩, ⟨K13, w2⟩⟩ := worst_tells ca cb' n
    obtain ⟨ok, eok⟩ : ∃ ok, (servedR vr vl X).2.2.2 = ok := ⟨_, rfl⟩
    have lSV := servedOf_len vr vl X
    simp only [servedOf, backlogOf, delayOf, eok] at i1 s1 i2 s2 i3 s3 lSV
    obtain ⟨SV, eSV⟩ : ∃ SV, (servedR vr vl X).1 = SV := ⟨_, rfl⟩
    obtain ⟨bl, ebl⟩ : ∃ bl, (servedR vr vl X).2.1 = bl := ⟨_, rfl⟩
    obtain ⟨dl, edl⟩ : ∃ dl, (servedR vr vl X).2.2.1 = dl := ⟨_, rfl⟩
    rw [eSV] at i1 s1 lSV
    rw [ebl] at i2 s2
    rw [edl] at i3 s3
    obtain ⟨K14, e1⟩ := same_self SV (by omega)
    obtain ⟨kps, five, eKB⟩ : ∃ kps five, kbR br bd X = (kps, five) := ⟨_, _, rfl⟩
    rw [eKB] at kb
    obtain ⟨mst, six, eBB⟩ : ∃ a b, bbR vr vl br bd = (a, b) := ⟨_, _, rfl⟩
    obtain ⟨lng, six', eDB⟩ : ∃ a b, dbR vr vl br bd = (a, b) := ⟨_, _, rfl⟩
    obtain ⟨hr_, hd_, eight, eBH⟩ : ∃ a b c, bhR vr vl br bd = (a, b, c) := ⟨_, _, _, rfl⟩
    obtain ⟨m2, g5, eB2⟩ : ∃ a b, bbR wr wl br bd = (a, b) := ⟨_, _, rfl⟩
    obtain ⟨l2, g5', eD2⟩ : ∃ a b, dbR wr wl br bd = (a, b) := ⟨_, _, rfl⟩
    obtain ⟨h2r, h2d, nine, eH2⟩ : ∃ a b c, bhR wr wl br bd = (a, b, c) := ⟨_, _, _, rfl⟩
    obtain ⟨ra, rb, elv, eIR⟩ : ∃ a b c, irR pa pb qa qb = (a, b, c) := ⟨_, _, _, rfl⟩
    obtain ⟨WT, frt, eWT⟩ : ∃ a b, wtR ca cb' n = (a, b) := ⟨_, _, rfl⟩
    have h66 : six' = six := by
      unfold bbR at eBB
      unfold dbR at eDB
      split at eBB
      · rename_i c1; rw [if_pos c1] at eDB; rw [← (Prod.mk.inj eBB).2, ← (Prod.mk.inj eDB).2]
      · rename_i c1; rw [if_neg c1] at eDB; rw [← (Prod.mk.inj eBB).2, ← (Prod.mk.inj eDB).2]
    have h55 : g5' = g5 := by
      unfold bbR at eB2
      unfold dbR at eD2
      split at eB2
      · rename_i c1; rw [if_pos c1] at eD2; rw [← (Prod.mk.inj eB2).2, ← (Prod.mk.inj eD2).2]
      · rename_i c1; rw [if_neg c1] at eD2; rw [← (Prod.mk.inj eB2).2, ← (Prod.mk.inj eD2).2]
    subst h66 h55
    have b1 := backlogBound_tells vr vl br bd
    have b2 := backlogBound_tells wr wl br bd
    have b3 := delayBound_tells vr vl br bd
    have b4 := delayBound_tells wr wl br bd
    have b5 := behind_tells vr vl br bd
    have b6 := behind_tells wr wl br bd
    rw [eBB] at b1
    rw [eB2] at b2
    rw [eDB] at b3
    rw [eD2] at b4
    rw [eBH] at b5
    rw [eH2] at b6
    rw [eIR] at r1 r2 r3
    rw [eWT] at w1 w2
    have lWT : WT.length ≤ 1000 := by
      unfold wtR at eWT
      split at eWT
      · rename_i c1
        rw [Bool.and_eq_true] at c1
        have := inB_iff.mp c1.2
        rw [← (Prod.mk.inj eWT).1, wl_length]
        omega
      · rw [← (Prod.mk.inj eWT).1]; simp
    obtain ⟨K15, e2⟩ := same_self WT (by omega)
    have hsv : ok = true → impl_IsServer.f vr vl = some true := by
      intro hk
      rw [← eok] at hk
      rw [isServer_tells, (served_true hk).1]
    obtain ⟨sm, mo, K16, hsum⟩ : ∃ sm mo : Int, ∃ K, ∀ k, K ≤ k → ok = true → laws_kSum.f k SV = some sm ∧ laws_kSum.f k X = some sm ∧ laws_kMost.f k SV = some mo ∧ decide (mo > vr) = false := by
      cases ok
      · exact ⟨0, 0, 0, fun _ _ h => by cases h⟩
      · obtain ⟨f1, f2, f3, T, f4, f5⟩ := served_true eok
        rw [f4] at eSV
        have hm := Srv.outs_mem (lat := vl) f3 T
        have hr := f3.rate
        rw [show Srv.outs X vr vl T = SV from eSV] at hm
        obtain ⟨Ka, ha⟩ := kSum_tells SV (fun x hx => by have := hm x hx; omega) (by omega)
        obtain ⟨Kb, hb⟩ := kSum_tells X f3.ent (by omega)
        obtain ⟨mo, ⟨Kc, hc⟩, hmo⟩ := kMost_tells SV vr (by omega) (fun x hx => (hm x hx).2) (by omega)
        have hs : SV.sum = X.sum := by rw [← eSV]; exact Srv.outs_sum f3 T f5
        exact ⟨X.sum, mo, Ka + Kb + Kc, fun k hk _ => ⟨by rw [← hs]; exact ha k (by omega), hb k (by omega), hc k (by omega), decide_eq_false (by omega)⟩⟩
    -- traffic that keeps the bucket
    have hkeep : ok = true → five = true → kps = true → isBk br bd = true ∧ Srv.Keeps X br bd := by
      intro hk h5 hkp
      subst hk h5 hkp
      obtain ⟨f1, f2, f3, T, f4, f5⟩ := served_true eok
      unfold kbR at eKB
      split at eKB
      · rename_i c1
        rw [Bool.and_eq_true] at c1
        obtain ⟨hb1, hb2⟩ := isBk_iff.mp c1.1
        exact ⟨c1.1, Srv.keeps_of f3 (by omega) (by omega) (Prod.mk.inj eKB).1⟩
      · cases eKB
    have hc1 : ok = true → five = true → kps = true → six' = true → decide (bl > mst) = false ∧ decide (dl > lng) = false := by
      intro hk h5 hkp h6
      obtain ⟨q1, q2⟩ := hkeep hk h5 hkp
      subst hk h5 hkp h6
      obtain ⟨f1, f2, f3, T, f4, f5⟩ := served_true eok
      unfold bbR at eBB
      unfold dbR at eDB
      split at eBB
      · rename_i c1
        rw [if_pos c1] at eDB
        obtain ⟨⟨p1, p2⟩, ⟨p3, p4⟩, p5⟩ := fits_iff.mp c1
        obtain ⟨L, hL⟩ : ∃ L : Nat, vl = (L : Int) := ⟨vl.toNat, by omega⟩
        subst hL
        have g1 := Srv.most_bound (L := L) f3 (by omega) p5 (by omega) q2 T
        have hq0 : 0 ≤ (bd + vr - 1) / vr := Int.ediv_nonneg (by omega) (by omega)
        obtain ⟨q, hq⟩ : ∃ q : Nat, (bd + vr - 1) / vr = (q : Int) := ⟨((bd + vr - 1) / vr).toNat, by omega⟩
        have hq2 : bd ≤ vr * (q : Int) := by
          have a1 := Int.mul_ediv_add_emod (bd + vr - 1) vr
          have a2 := Int.emod_lt_of_pos (bd + vr - 1) (show 0 < vr by omega)
          rw [hq] at a1
          omega
        have g2 := Srv.D_bound (L := L) f3 (by omega) p5 q2 hq2 T
        rw [f4] at ebl edl
        rw [hq] at eDB
        rw [← ebl, ← edl, ← (Prod.mk.inj eBB).1, ← (Prod.mk.inj eDB).1]
        exact ⟨decide_eq_false (by show ¬ Srv.most X vr L T > _; omega), decide_eq_false (by show ¬ Srv.D X vr L T > _; omega)⟩
      · cases eBB
    obtain ⟨K17, hc2⟩ : ∃ K, ∀ k, K ≤ k → ok = true → five = true → kps = true → eight = true → isTr SV = true → impl_KeepsBucket.f k hr_ hd_ SV = some (true, true) := by
      obtain ⟨Ka, ha⟩ := keepsBucket_tells hr_ hd_ SV
      refine ⟨Ka, fun k hk hok h5 hkp h8 hit => ?_⟩
      obtain ⟨q1, q2⟩ := hkeep hok h5 hkp
      subst hok h5 hkp h8
      obtain ⟨f1, f2, f3, T, f4, f5⟩ := served_true eok
      have ha2 := ha k hk
      dsimp only at ha2
      rw [ha2]
      unfold bhR at eBH
      split at eBH
      · rename_i c1
        rw [Bool.and_eq_true] at c1
        obtain ⟨⟨p1, p2⟩, ⟨p3, p4⟩, p5⟩ := fits_iff.mp c1.1
        simp only [Prod.mk.injEq] at eBH
        obtain ⟨y1, y2, _⟩ := eBH
        subst y1 y2
        obtain ⟨L, hL⟩ : ∃ L : Nat, vl = (L : Int) := ⟨vl.toNat, by omega⟩
        subst hL
        have g1 := Srv.behind_keeps (L := L) f3 (by omega) p5 q2 T
        have hdp := inB_iff.mp c1.2
        have hbk : isBk br (bd + br * (L : Int)) = true := isBk_iff.mpr ⟨p3, hdp⟩
        rw [f4] at eSV
        rw [show Srv.outs X vr L T = SV from eSV] at g1
        simp [kbR, hbk, hit, g1]
      · simp at eBH
    have hc3 : nine = true → g5' = true ∧ h2d = m2 ∧ h2r = br := by
      intro h9
      subst h9
      unfold bhR at eH2
      split at eH2
      · rename_i c1
        rw [Bool.and_eq_true] at c1
        unfold bbR at eB2
        rw [if_pos c1.1] at eB2
        simp only [Prod.mk.injEq] at eH2 eB2
        exact ⟨eB2.2.symm, by rw [← eH2.2.1, ← eB2.1], eH2.1.symm⟩
      · simp at eH2
    obtain ⟨K18, hc4⟩ : ∃ K, ∀ k, K ≤ k → frt = true → impl_KeepsBucket.f k ca cb' WT = some (true, true) ∧ n = (WT.length : Int) := by
      obtain ⟨Ka, ha⟩ := keepsBucket_tells ca cb' WT
      refine ⟨Ka, fun k hk hf => ?_⟩
      subst hf
      have ha2 := ha k hk
      dsimp only at ha2
      rw [ha2]
      unfold wtR at eWT
      split at eWT
      · rename_i c1
        rw [Bool.and_eq_true] at c1
        obtain ⟨p1, p2⟩ := isBk_iff.mp c1.1
        have p3 := inB_iff.mp c1.2
        have y := (Prod.mk.inj eWT).1
        have hwt : isTr WT = true := by
          rw [isTr_iff, ← y]
          refine ⟨by rw [wl_length]; omega, fun x hx => ?_⟩
          have hmn : 0 ≤ mn ca cb' ∧ mn ca cb' ≤ 1000 := by
            have := (mn_le (a := ca) (b := cb')).mp (Int.le_refl _)
            exact ⟨mn_ge (by omega) (by omega), by omega⟩
          cases hn : n.toNat with
          | zero => rw [hn] at hx; simp [Bd.wl] at hx
          | succ k =>
            rw [hn] at hx
            simp only [Bd.wl, List.mem_cons, List.mem_replicate] at hx
            rcases hx with rfl | ⟨_, rfl⟩
            · omega
            · exact hmn
        have hkw := kp_worst ca cb' n.toNat
        rw [y] at hkw
        refine ⟨by simp [kbR, c1.1, hwt, hkw], ?_⟩
        rw [← y, wl_length]
        omega
      · cases eWT
    generalize hK : K1 + K2 + K3 + K4 + K5 + K6 + K7 + K8 + K9 + K10 + K11 + K12 + K13 + K14 + K15 + K16 + K17 + K18 = K
    exact bounds_walk A c l B e m W h.1 h.2.1 g.1 g.2.1 K X SV WT vr vl bl dl wr wl br bd sm mo mst lng hr_ hd_ m2 l2 h2r h2d pa pb qa qb ra rb ca cb' n ok kps five six' eight (isTr SV) g5' nine elv frt
      (by rw [hbig, cb]) (d1 K (by omega)) (i1 K (by omega)) (s1 K (by omega)) (i2 K (by omega)) (s2 K (by omega)) (i3 K (by omega)) (s3 K (by omega)) (e1 K (by omega)) hsv d2 (hsum K (by omega)) (kb K (by omega)) b1.1 b3.1 hc1 b5.1 (isTraffic_tells SV) (hc2 K (by omega))
      b2.1 b2.2 b4.1 b4.2 b6.1 b6.2 hc3 d3 (r1 K (by omega)) (r2 K (by omega)) (r3 K (by omega)) d4 (w1 K (by omega)) (w2 K (by omega)) (e2 K (by omega)) (hc4 K (by omega))
end Bd
end Go.Proofs.Ytoeddkfbhjmbmaa.PB
