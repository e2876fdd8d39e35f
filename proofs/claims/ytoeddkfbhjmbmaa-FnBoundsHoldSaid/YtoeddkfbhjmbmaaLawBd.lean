/- The law on bounds comes to true: it is walked along its one way; no condition but the named facts. -/
import Derived.Deep.CutRange
import Derived.Deep.DeepCutAuto
import Derived.Test.YtoeddkfbhjmbmaaPure0
import Derived.Test.YtoeddkfbhjmbmaaLaw
import Derived.Test.YtoeddkfbhjmbmaaPB13
import Derived.Test.YtoeddkfbhjmbmaaPB20
import Derived.Test.YtoeddkfbhjmbmaaPB10
import Derived.Test.YtoeddkfbhjmbmaaPB6
import Derived.Test.YtoeddkfbhjmbmaaPB12
import Derived.Test.YtoeddkfbhjmbmaaPB14
import Derived.Test.YtoeddkfbhjmbmaaPB7
import Derived.Test.YtoeddkfbhjmbmaaPB21
import Derived.Test.YtoeddkfbhjmbmaaPB15
import Derived.Test.YtoeddkfbhjmbmaaPB24
import Derived.Test.YtoeddkfbhjmbmaaPB25
import Derived.Test.YtoeddkfbhjmbmaaPB27
import Derived.Test.YtoeddkfbhjmbmaaPB26
import Derived.Test.YtoeddkfbhjmbmaaPB28
import Derived.Test.YtoeddkfbhjmbmaaPB8
import Derived.Test.YtoeddkfbhjmbmaaPB29
import Derived.Test.YtoeddkfbhjmbmaaPB30
import Derived.Test.YtoeddkfbhjmbmaaPB31
import Derived.Test.YtoeddkfbhjmbmaaPB32
import Derived.Test.YtoeddkfbhjmbmaaPB33
namespace Go.Proofs.Ytoeddkfbhjmbmaa.PB
open Go.RowKit Go.Proofs.YtoeddkfbhjmbmaaW.PrintWords Go.Proofs.YtoeddkfbhjmbmaaW.PrintLast Go.Proofs.YtoeddkfbhjmbmaaW.PrintMore
set_option linter.unusedVariables false
set_option linter.unusedSimpArgs false
def law14.T14 : Bool × List (List Nat × List Nat) := (true, [([], []), ([0], [0]), ([], []), ([2, 1], [2]), ([1, 3], [1, 3]), ([4, 3], [4]), ([5], [5]), ([6, 5, 5], [5, 6]), ([5], [5]), ([8, 5], [5, 8]), ([7, 9, 5], [5, 7, 9]), ([5, 10], [5, 10])])
def law14.B14 : List Nat := [0, 1, 0, 7, 15, 31, 63, 127, 63, 319, 1023, 2047]
theorem law14.tab14 : rtab .any (opsOf Try.f13 14) = law14.T14 := by kernel_rfl
theorem law14.bits14 : waitsOk law14.T14.2 law14.B14 = true := by kernel_rfl
set_option maxHeartbeats 8000000 in
set_option maxRecDepth 100000 in
theorem bounds_walk (A : Option Addr) (c : Nat) (l : List Int) (B : Option Addr) (e : Nat) (m : List Int) (W : World) (hA : Kd.C (Kd.int .u8) W A l.length l) (hAL : l.length ≤ c) (hB : Kd.C (Kd.int .u8) W B m.length m) (hBL : m.length ≤ e)
    (kq : Nat) (X SV WT : List Int) (vr vl bl dl wr wl br bd sm mo mst lng hr_ hd_ m2 l2 h2r h2d pa pb qa qb ra rb ca cb n : Int) (ok kps five six eight it g5 nine elv frt : Bool)
    (HBig_ : laws_big.f l m = some false)
    (HD1_ : spec_DrawServedBy.f kq l = some (vr, vl, X))
    (HI1_ : impl_ServedBy.f kq vr vl X = some (SV, ok))
    (HS1_ : spec_ServedBy.f kq vr vl X = some (SV, ok))
    (HI2_ : impl_BacklogServed.f kq vr vl X = some (bl, ok))
    (HS2_ : spec_BacklogServed.f kq vr vl X = some (bl, ok))
    (HI3_ : impl_DelayServed.f kq vr vl X = some (dl, ok))
    (HS3_ : spec_DelayServed.f kq vr vl X = some (dl, ok))
    (HE1_ : laws_kSame.f kq SV SV = some true)
    (HIS_ : ok = true → impl_IsServer.f vr vl = some true)
    (HD2_ : spec_DrawBacklogBound.f m = some (wr, wl, br, bd))
    (HSum_ : ok = true → laws_kSum.f kq SV = some sm ∧ laws_kSum.f kq X = some sm ∧ laws_kMost.f kq SV = some mo ∧ decide (mo > vr) = false)
    (HKB_ : impl_KeepsBucket.f kq br bd X = some (kps, five))
    (HBB_ : impl_BacklogBound.f vr vl br bd = some (mst, six))
    (HDB_ : impl_DelayBound.f vr vl br bd = some (lng, six))
    (HC1_ : ok = true → five = true → kps = true → six = true → decide (bl > mst) = false ∧ decide (dl > lng) = false)
    (HBH_ : impl_BucketBehind.f vr vl br bd = some (hr_, hd_, eight))
    (HIT_ : impl_IsTraffic.f SV = some it)
    (HC2_ : ok = true → five = true → kps = true → eight = true → it = true → impl_KeepsBucket.f kq hr_ hd_ SV = some (true, true))
    (HBB2_ : impl_BacklogBound.f wr wl br bd = some (m2, g5))
    (HBB3_ : spec_BacklogBound.f wr wl br bd = some (m2, g5))
    (HDB2_ : impl_DelayBound.f wr wl br bd = some (l2, g5))
    (HDB3_ : spec_DelayBound.f wr wl br bd = some (l2, g5))
    (HBH2_ : impl_BucketBehind.f wr wl br bd = some (h2r, h2d, nine))
    (HBH3_ : spec_BucketBehind.f wr wl br bd = some (h2r, h2d, nine))
    (HC3_ : nine = true → g5 = true ∧ h2d = m2 ∧ h2r = br)
    (HD3_ : spec_DrawInRow.f m = some (pa, pb, qa, qb))
    (HR1_ : impl_InRow.f kq pa pb qa qb = some (ra, rb, elv))
    (HR2_ : spec_InRow.f kq pa pb qa qb = some (ra, rb, elv))
    (HR3_ : impl_InRow.f kq qa qb pa pb = some (ra, rb, elv))
    (HD4_ : spec_DrawWorstTraffic.f m = some (ca, cb, n))
    (HW1_ : impl_WorstTraffic.f kq ca cb n = some (WT, frt))
    (HW2_ : spec_WorstTraffic.f kq ca cb n = some (WT, frt))
    (HE2_ : laws_kSame.f kq WT WT = some true)
    (HC4_ : frt = true → impl_KeepsBucket.f kq ca cb WT = some (true, true) ∧ n = (WT.length : Int))
    :
    Calls Try.prog 13 #[.slice A l.length c, .slice B m.length e] W fun e W' => e = .returned (.bool true) ∧ Below W.heap.size W W' := by
  have HA := Aside0.mk hA
  have HB := Aside0.mk hB
  have HAL := Aside0.mk hAL
  have HBL := Aside0.mk hBL
  have HBig := Aside0.mk HBig_
  have HD1 := Aside0.mk HD1_
  have HI1 := Aside0.mk HI1_
  have HS1 := Aside0.mk HS1_
  have HI2 := Aside0.mk HI2_
  have HS2 := Aside0.mk HS2_
  have HI3 := Aside0.mk HI3_
  have HS3 := Aside0.mk HS3_
  have HE1 := Aside0.mk HE1_
  have HIS := Aside0.mk HIS_
  have HD2 := Aside0.mk HD2_
  have HSum := Aside0.mk HSum_
  have HKB := Aside0.mk HKB_
  have HBB := Aside0.mk HBB_
  have HDB := Aside0.mk HDB_
  have HC1 := Aside0.mk HC1_
  have HBH := Aside0.mk HBH_
  have HIT := Aside0.mk HIT_
  have HC2 := Aside0.mk HC2_
  have HBB2 := Aside0.mk HBB2_
  have HBB3 := Aside0.mk HBB3_
  have HDB2 := Aside0.mk HDB2_
  have HDB3 := Aside0.mk HDB3_
  have HBH2 := Aside0.mk HBH2_
  have HBH3 := Aside0.mk HBH3_
  have HC3 := Aside0.mk HC3_
  have HD3 := Aside0.mk HD3_
  have HR1 := Aside0.mk HR1_
  have HR2 := Aside0.mk HR2_
  have HR3 := Aside0.mk HR3_
  have HD4 := Aside0.mk HD4_
  have HW1 := Aside0.mk HW1_
  have HW2 := Aside0.mk HW2_
  have HE2 := Aside0.mk HE2_
  have HC4 := Aside0.mk HC4_
  clear hA hB hAL hBL HBig_ HD1_ HI1_ HS1_ HI2_ HS2_ HI3_ HS3_ HE1_ HIS_ HD2_ HSum_ HKB_ HBB_ HDB_ HC1_ HBH_ HIT_ HC2_ HBB2_ HBB3_ HDB2_ HDB3_ HBH2_ HBH3_ HC3_ HD3_ HR1_ HR2_ HR3_ HD4_ HW1_ HW2_ HE2_ HC4_
  have hu37 := Try.underlying37
  have hu67 := Try.underlying67
  go_enter Try.func13, Try.ntmps13
  go_wp2_with fail
  (refine (laws_big.calls A c l B e m false _ (Kd.C_below HA.out (by repeat (first | exact (Below.refl _ _) | apply pw_below_drewN | apply below_drew | apply below_alloc))) HAL.out (Kd.C_below HB.out (by repeat (first | exact (Below.refl _ _) | apply pw_below_drewN | apply below_drew | apply below_alloc))) HBL.out HBig.out).mono ?_)
  rintro e w' ⟨rfl, ⟨nd0, rfl⟩⟩
  go_wp2_with fail
  (refine (spec_DrawServedBy.calls kq A c l _ _ _ _ (Kd.C_below HA.out (by repeat (first | exact (Below.refl _ _) | apply pw_below_drewN | apply below_drew | apply below_alloc))) HAL.out HD1.out).mono ?_)
  rintro e w1 ⟨v1, rfl, hr, hb⟩
  have HB1 := Aside0.mk (show Below W.heap.size W w1 from lw_then (by repeat (first | exact (Below.refl _ _) | apply pw_below_drewN | apply below_drew | apply below_alloc)) hb)
  obtain ⟨Av1, cv1, rfl⟩ := Kd.R_slice hr
  have Hv1 := Aside0.mk (Kd.R_reads' hr)
  clear hr
  clear hb
  go_wp2_with ((with_reducible refine gate_dst (N := 5) rfl ?_); refine box_event ?hg (N := 5) ?hd (cs := #[.int .i64 0, .int .i64 0]) (t := 37) ?hr ?_; (case hd => rfl); (case hg => rfl); (case hr => first | (go_simp; done) | (go_simp; rfl)); intro ga hga w2 hbox hb; have HB2 := Aside0.mk (show Below w1.heap.size w1 w2 from lw_then (by repeat (first | exact (Below.refl _ _) | apply pw_below_drewN | apply below_drew | apply below_alloc)) hb); have gac0 : w2.cell? ⟨ga, 0, none⟩ = some (.int .i64 0) := (blk_cell hbox 0).trans rfl; have gac1 : w2.cell? ⟨ga, 1, none⟩ = some (.int .i64 0) := (blk_cell hbox 1).trans rfl; have BKga := Aside0.mk hbox; have GEga := Aside0.mk (show w1.heap.size ≤ ga from by rw [hga]; exact Nat.le_refl _); have hfzga0 := blk_frozen hbox 0; have hfzga1 := blk_frozen hbox 1; clear hb hbox hga)
  go_wp2_with fail
  obtain ⟨w3, hwk⟩ : ∃ x_ : World, x_ = ((w2.setCell ⟨ga, 0, none⟩ (.int .i64 vr)).setCell ⟨ga, 1, none⟩ (.int .i64 vl)) := ⟨_, rfl⟩
  rw [← hwk]
  have hbk : w3.heap[ga]? = some (.cells #[.int .i64 vr, .int .i64 vl] 37 (0, 0)) := by rw [hwk]; exact (blk_put (blk_put BKga.out 0 _ rfl) 1 _ rfl)
  have HB3 := Aside0.mk (show Below w1.heap.size w1 w3 from by rw [hwk]; exact (below_set (below_set HB2.out GEga.out) GEga.out))
  have gac0_3 : w3.cell? ⟨ga, 0, none⟩ = some (.int .i64 vr) := (blk_cell hbk 0).trans rfl
  have gac1_3 : w3.cell? ⟨ga, 1, none⟩ = some (.int .i64 vl) := (blk_cell hbk 1).trans rfl
  clear hwk hbk gac0 gac1 hfzga0 hfzga1
  (refine (impl_ServedBy.calls kq vr vl Av1 cv1 X _ _ _ (Kd.C_below Hv1.out.2.2 (by repeat (first | exact HB3.out | apply pw_below_drewN | apply below_drew | apply below_alloc))) Hv1.out.2.1 HI1.out).mono ?_)
  rintro e w4 ⟨v2, rfl, hr, hb⟩
  have HB4 := Aside0.mk (show Below w3.heap.size w3 w4 from lw_then (by repeat (first | exact (Below.refl _ _) | apply pw_below_drewN | apply below_drew | apply below_alloc)) hb)
  have gac0_4 := pw_cell_below HB4.out gac0_3
  clear gac0_3
  have gac1_4 := pw_cell_below HB4.out gac1_3
  clear gac1_3
  obtain ⟨Av2, cv2, rfl⟩ := Kd.R_slice hr
  have Hv2 := Aside0.mk (Kd.R_reads' hr)
  clear hr
  clear hb
  go_wp2_with fail
  (refine (spec_ServedBy.calls kq vr vl Av1 cv1 X _ _ _ (Kd.C_below Hv1.out.2.2 (by repeat (first | exact (lw_then HB3.out HB4.out) | apply pw_below_drewN | apply below_drew | apply below_alloc))) Hv1.out.2.1 HS1.out).mono ?_)
  rintro e w5 ⟨v3, rfl, hr, hb⟩
  have HB5 := Aside0.mk (show Below w4.heap.size w4 w5 from lw_then (by repeat (first | exact (Below.refl _ _) | apply pw_below_drewN | apply below_drew | apply below_alloc)) hb)
  have gac0_5 := pw_cell_below HB5.out gac0_4
  clear gac0_4
  have gac1_5 := pw_cell_below HB5.out gac1_4
  clear gac1_4
  obtain ⟨Av3, cv3, rfl⟩ := Kd.R_slice hr
  have Hv3 := Aside0.mk (Kd.R_reads' hr)
  clear hr
  clear hb
  go_wp2_with fail
  (refine (impl_BacklogServed.calls kq vr vl Av1 cv1 X _ _ _ (Kd.C_below Hv1.out.2.2 (by repeat (first | exact (lw_then (lw_then HB3.out HB4.out) HB5.out) | apply pw_below_drewN | apply below_drew | apply below_alloc))) Hv1.out.2.1 HI2.out).mono ?_)
  rintro e w6 ⟨rfl, hb⟩
  have HB6 := Aside0.mk (show Below w5.heap.size w5 w6 from lw_then (by repeat (first | exact (Below.refl _ _) | apply pw_below_drewN | apply below_drew | apply below_alloc)) hb)
  have gac0_6 := pw_cell_below HB6.out gac0_5
  clear gac0_5
  have gac1_6 := pw_cell_below HB6.out gac1_5
  clear gac1_5
  clear hb
  go_wp2_with fail
  (refine (spec_BacklogServed.calls kq vr vl Av1 cv1 X _ _ _ (Kd.C_below Hv1.out.2.2 (by repeat (first | exact (lw_then (lw_then (lw_then HB3.out HB4.out) HB5.out) HB6.out) | apply pw_below_drewN | apply below_drew | apply below_alloc))) Hv1.out.2.1 HS2.out).mono ?_)
  rintro e w7 ⟨rfl, hb⟩
  have HB7 := Aside0.mk (show Below w6.heap.size w6 w7 from lw_then (by repeat (first | exact (Below.refl _ _) | apply pw_below_drewN | apply below_drew | apply below_alloc)) hb)
  have gac0_7 := pw_cell_below HB7.out gac0_6
  clear gac0_6
  have gac1_7 := pw_cell_below HB7.out gac1_6
  clear gac1_6
  clear hb
  go_wp2_with fail
  (refine (impl_DelayServed.calls kq vr vl Av1 cv1 X _ _ _ (Kd.C_below Hv1.out.2.2 (by repeat (first | exact (lw_then (lw_then (lw_then (lw_then HB3.out HB4.out) HB5.out) HB6.out) HB7.out) | apply pw_below_drewN | apply below_drew | apply below_alloc))) Hv1.out.2.1 HI3.out).mono ?_)
  rintro e w8 ⟨rfl, hb⟩
  have HB8 := Aside0.mk (show Below w7.heap.size w7 w8 from lw_then (by repeat (first | exact (Below.refl _ _) | apply pw_below_drewN | apply below_drew | apply below_alloc)) hb)
  have gac0_8 := pw_cell_below HB8.out gac0_7
  clear gac0_7
  have gac1_8 := pw_cell_below HB8.out gac1_7
  clear gac1_7
  clear hb
  go_wp2_with fail
  (refine (spec_DelayServed.calls kq vr vl Av1 cv1 X _ _ _ (Kd.C_below Hv1.out.2.2 (by repeat (first | exact (lw_then (lw_then (lw_then (lw_then (lw_then HB3.out HB4.out) HB5.out) HB6.out) HB7.out) HB8.out) | apply pw_below_drewN | apply below_drew | apply below_alloc))) Hv1.out.2.1 HS3.out).mono ?_)
  rintro e w9 ⟨rfl, hb⟩
  have HB9 := Aside0.mk (show Below w8.heap.size w8 w9 from lw_then (by repeat (first | exact (Below.refl _ _) | apply pw_below_drewN | apply below_drew | apply below_alloc)) hb)
  have gac0_9 := pw_cell_below HB9.out gac0_8
  clear gac0_8
  have gac1_9 := pw_cell_below HB9.out gac1_8
  clear gac1_8
  clear hb
  go_upto_region 10 with (fail)
  go_cut [149] from 103 to 148 (fun v149 wx => v149 = .bool false ∧ Below w9.heap.size w9 wx)
  case first =>
    cases ok
    focus
      go_wp2_with fail
      (refine (laws_kSame.calls kq Av2 cv2 SV Av3 cv3 SV true _ (Kd.C_below Hv2.out.2.2 (by repeat (first | exact (lw_then (lw_then (lw_then (lw_then HB5.out HB6.out) HB7.out) HB8.out) HB9.out) | apply pw_below_drewN | apply below_drew | apply below_alloc))) Hv2.out.2.1 (Kd.C_below Hv3.out.2.2 (by repeat (first | exact (lw_then (lw_then (lw_then HB6.out HB7.out) HB8.out) HB9.out) | apply pw_below_drewN | apply below_drew | apply below_alloc))) Hv3.out.2.1 HE1.out).mono ?_)
      rintro e w' ⟨rfl, ⟨nd1, rfl⟩⟩
      go_wp2_with fail
      go_meet
      case rel => exact ⟨rfl, (by repeat (first | exact (Below.refl _ _) | apply pw_below_drewN | apply below_drew | apply below_alloc))⟩
    focus
      go_wp2_with fail
      (refine (laws_kSame.calls kq Av2 cv2 SV Av3 cv3 SV true _ (Kd.C_below Hv2.out.2.2 (by repeat (first | exact (lw_then (lw_then (lw_then (lw_then HB5.out HB6.out) HB7.out) HB8.out) HB9.out) | apply pw_below_drewN | apply below_drew | apply below_alloc))) Hv2.out.2.1 (Kd.C_below Hv3.out.2.2 (by repeat (first | exact (lw_then (lw_then (lw_then HB6.out HB7.out) HB8.out) HB9.out) | apply pw_below_drewN | apply below_drew | apply below_alloc))) Hv3.out.2.1 HE1.out).mono ?_)
      rintro e w' ⟨rfl, ⟨nd2, rfl⟩⟩
      go_wp2_with fail
      (refine (impl_IsServer.calls vr vl true _ (HIS.out (by trivial))).mono ?_)
      rintro e w10 ⟨rfl, hb⟩
      have HB10 := Aside0.mk (show Below w9.heap.size w9 w10 from lw_then (by repeat (first | exact (Below.refl _ _) | apply pw_below_drewN | apply below_drew | apply below_alloc)) hb)
      have gac0_10 := pw_cell_below HB10.out gac0_9
      clear gac0_9
      have gac1_10 := pw_cell_below HB10.out gac1_9
      clear gac1_9
      clear hb
      go_wp2_with fail
      go_meet
      case rel => exact ⟨rfl, (by repeat (first | exact HB10.out | apply pw_below_drewN | apply below_drew | apply below_alloc))⟩
  case rest =>
    obtain ⟨rfl, hcut⟩ := hcut
    generalize wc = w10 at hcut ⊢
    have HB10 := Aside0.mk (show Below w9.heap.size w9 w10 from hcut)
    clear hcut
    have gac0_10 := pw_cell_below HB10.out gac0_9
    clear gac0_9
    have gac1_10 := pw_cell_below HB10.out gac1_9
    clear gac1_9
    go_wp2_with fail
    (refine (spec_DrawBacklogBound.calls B e m _ _ _ _ _ (Kd.C_below HB.out (by repeat (first | exact (lw_then (lw_then (lw_then (lw_then (lw_then (lw_then (lw_then (lw_then HB1.out HB3.out) HB4.out) HB5.out) HB6.out) HB7.out) HB8.out) HB9.out) HB10.out) | apply pw_below_drewN | apply below_drew | apply below_alloc))) HBL.out HD2.out).mono ?_)
    rintro e w11 ⟨rfl, hb⟩
    have HB11 := Aside0.mk (show Below w10.heap.size w10 w11 from lw_then (by repeat (first | exact (Below.refl _ _) | apply pw_below_drewN | apply below_drew | apply below_alloc)) hb)
    have gac0_11 := pw_cell_below HB11.out gac0_10
    clear gac0_10
    have gac1_11 := pw_cell_below HB11.out gac1_10
    clear gac1_10
    clear hb
    go_upto_if 155 with (first | (have HQgac0_11 := Aside0.mk gac0_11; have HQgac1_11 := Aside0.mk gac1_11; (with_reducible refine gate_dst (N := 19) rfl ?_); refine box_event ?hg (N := 19) ?hd (cs := #[.int .i64 0, .int .i64 0]) (t := 37) ?hr ?_; (case hd => rfl); (case hg => rfl); (case hr => first | (go_simp; done) | (go_simp; rfl)); intro gb hg w12 hbox hb; have HB12 := Aside0.mk (show Below w11.heap.size w11 w12 from lw_then (by repeat (first | exact (Below.refl _ _) | apply pw_below_drewN | apply below_drew | apply below_alloc)) hb); have gac0_12 := pw_cell_below HB12.out gac0_11; clear gac0_11; have gac1_12 := pw_cell_below HB12.out gac1_11; clear gac1_11; have BK1 := Aside0.mk hbox; have GE1 := Aside0.mk (show w11.heap.size ≤ gb from by rw [hg]; exact Nat.le_refl _); clear hb hbox hg) | ((with_reducible refine gate_dst (N := 20) rfl ?_); refine box_event ?hg (N := 20) ?hd (cs := #[.int .i64 0, .int .i64 0]) (t := 67) ?hr ?_; (case hd => rfl); (case hg => rfl); (case hr => first | (go_simp; done) | (go_simp; rfl)); intro gc hg w13 hbox hb; have HB13 := Aside0.mk (show Below w12.heap.size w12 w13 from lw_then (by repeat (first | exact (Below.refl _ _) | apply pw_below_drewN | apply below_drew | apply below_alloc)) hb); have gac0_13 := pw_cell_below HB13.out gac0_12; clear gac0_12; have gac1_13 := pw_cell_below HB13.out gac1_12; clear gac1_12; have BK2 := Aside0.mk hbox; have GE2 := Aside0.mk (show w12.heap.size ≤ gc from by rw [hg]; exact Nat.le_refl _); have BK3 := Aside0.mk (blk_below BK1.out HB13.out); have HNE := Aside0.mk (show gb ≠ gc from by have h1_ := blk_lt BK1.out; have h2_ := GE2.out; omega); have hne1 := HNE.out; have hne2 := HNE.out.symm; have hcgb0 : w13.cell? ⟨gb, 0, none⟩ = some (.int .i64 0) := (blk_cell BK3.out 0).trans rfl; have hfzgb0 := blk_frozen BK3.out 0; have hcgb1 : w13.cell? ⟨gb, 1, none⟩ = some (.int .i64 0) := (blk_cell BK3.out 1).trans rfl; have hfzgb1 := blk_frozen BK3.out 1; have hcgc0 : w13.cell? ⟨gc, 0, none⟩ = some (.int .i64 0) := (blk_cell BK2.out 0).trans rfl; have hfzgc0 := blk_frozen BK2.out 0; have hcgc1 : w13.cell? ⟨gc, 1, none⟩ = some (.int .i64 0) := (blk_cell BK2.out 1).trans rfl; have hfzgc1 := blk_frozen BK2.out 1; clear hb hbox hg))
    go_upto_if 155 with (fail)
    obtain ⟨w14, hwk⟩ : ∃ x_ : World, x_ = ((((w13.setCell ⟨gb, 0, none⟩ (.int .i64 wr)).setCell ⟨gb, 1, none⟩ (.int .i64 wl)).setCell ⟨gc, 0, none⟩ (.int .i64 br)).setCell ⟨gc, 1, none⟩ (.int .i64 bd)) := ⟨_, rfl⟩
    rw [← hwk]
    have hb1 : w14.heap[gb]? = some (.cells #[.int .i64 wr, .int .i64 wl] 37 (0, 0)) := by rw [hwk]; exact (blk_far (blk_far (blk_put (blk_put BK3.out 0 _ rfl) 1 _ rfl) HNE.out _) HNE.out _)
    have hb2 : w14.heap[gc]? = some (.cells #[.int .i64 br, .int .i64 bd] 67 (0, 0)) := by rw [hwk]; exact (blk_put (blk_put (blk_far (blk_far BK2.out HNE.out.symm _) HNE.out.symm _) 0 _ rfl) 1 _ rfl)
    have HB14 := Aside0.mk (show Below w11.heap.size w11 w14 from by rw [hwk]; exact (below_set (below_set (below_set (below_set (lw_then HB12.out HB13.out) GE1.out) GE1.out) (Nat.le_trans HB12.out.size GE2.out)) (Nat.le_trans HB12.out.size GE2.out)))
    have gac0_14 := pw_cell_below HB14.out HQgac0_11.out
    have gac1_14 := pw_cell_below HB14.out HQgac1_11.out
    have gbc0_14 : w14.cell? ⟨gb, 0, none⟩ = some (.int .i64 wr) := (blk_cell hb1 0).trans rfl
    have gbc1_14 : w14.cell? ⟨gb, 1, none⟩ = some (.int .i64 wl) := (blk_cell hb1 1).trans rfl
    have gcc0_14 : w14.cell? ⟨gc, 0, none⟩ = some (.int .i64 br) := (blk_cell hb2 0).trans rfl
    have gcc1_14 : w14.cell? ⟨gc, 1, none⟩ = some (.int .i64 bd) := (blk_cell hb2 1).trans rfl
    clear hwk hb1 hb2 hne1 hne2 BK1 BK2 BK3 GE1 GE2 HNE hcgb0 hfzgb0 hcgb1 hfzgb1 hcgc0 hfzgc0 hcgc1 hfzgc1 HQgac0_11 HQgac1_11 gac0_13 gac1_13
    go_upto_if 155 with (fail)
    go_cut [] from 156 to 235 (fun  wx => Below w14.heap.size w14 wx)
    case first =>
      cases ok
      focus
        go_wp2_with fail
        go_meet
        case rel => exact (by repeat (first | exact (Below.refl _ _) | apply pw_below_drewN | apply below_drew | apply below_alloc))
      focus
        obtain ⟨hs1, hs2, hs3, hs4⟩ := HSum.out (by trivial)
        have HSa := Aside0.mk hs1
        have HSb := Aside0.mk hs2
        have HSc := Aside0.mk hs3
        clear hs1 hs2 hs3
        go_wp2_with fail
        refine start_ (n := 12) (S := fun w' => w'.cell? ⟨ga, 0, none⟩ = some (.int .i64 vr) ∧ Below w14.heap.size w14 w') (ds := []) #[false, false, false, false, false, false, false, false, false, false, false, false] (by kernel_rfl) rfl rfl ⟨pw_cell_below (by repeat (first | exact Below.refl _ _ | apply pw_below_drewN | apply below_drew)) gac0_14, (by repeat (first | exact Below.refl _ _ | apply pw_below_drewN | apply below_drew))⟩ (fun hHeld => ?_)
        refine with_tabW law14.tab14 law14.bits14 (fun HT_ HW_ => ?_)
        refine pure_ (i := 0) (N := some 156) (v := ?_) (a' := ?_) #[true, false, false, false, false, false, false, false, false, false, false, false] rfl rfl (any_of HT_.out (by kernel_rfl)) (fun _ _ _ h => h) (Or.inl ⟨by rfl, ?_⟩) ?_ ?_
        rotate_left
        · intro w'
          go_simp
          with_reducible rfl
        rotate_left
        · simp only [Act.put, List.setIfInBounds_toArray, List.set_cons_zero, List.set_cons_succ, i64_w, i32_w]
          rfl
        refine pure_ (i := 2) (N := some 158) (v := ?_) (a' := ?_) #[true, false, true, false, false, false, false, false, false, false, false, false] rfl rfl (any_of HT_.out (by kernel_rfl)) (fun _ _ _ h => h) (Or.inl ⟨by rfl, ?_⟩) ?_ ?_
        rotate_left
        · intro w'
          go_simp
          with_reducible rfl
        rotate_left
        · simp only [Act.put, List.setIfInBounds_toArray, List.set_cons_zero, List.set_cons_succ, i64_w, i32_w]
          rfl
        refine one_ (i := 1) (N := some 157) #[true, true, true, false, false, false, false, false, false, false, false, false] rfl rfl (one_of HT_.out (by kernel_rfl)) (by decide) (fun K hK => ?_)
        refine goes_ Try.func56 (by kernel_rfl) rfl #[.slice Av2 SV.length cv2] (by rfl) rfl rfl (by simp only [List.map_toArray, List.map_cons, List.map_nil]; rfl) ?_
        with_reducible refine ((laws_kSum.calls kq Av2 cv2 SV sm _ (Kd.C_below Hv2.out.2.2 (lw_then (lw_then (lw_then (lw_then (lw_then (lw_then (lw_then (lw_then HB5.out HB6.out) HB7.out) HB8.out) HB9.out) HB10.out) HB11.out) HB14.out) hHeld.2)) Hv2.out.2.1 HSa.out)).mono ?_
        rintro e w' ⟨rfl, ⟨n1_, rfl⟩⟩
        refine ⟨_, rfl, ?_⟩
        refine hK.out _ _ ⟨pw_cell_below (pw_below_drewN (Below.refl _ _) _) hHeld.1, pw_below_drewN hHeld.2 _⟩ (fun hHeld => ?_)
        clear hK K
        refine norm_ (a' := ?_) ?_ ?_
        rotate_left
        · show Act.put _ (some 157) _ = _
          simp only [Act.put, List.setIfInBounds_toArray, List.set_cons_zero, List.set_cons_succ, i64_w, i32_w]
          rfl
        refine one_ (i := 3) (N := some 159) #[true, true, true, true, false, false, false, false, false, false, false, false] rfl rfl (one_of HT_.out (by kernel_rfl)) (by decide) (fun K hK => ?_)
        refine goes_ Try.func56 (by kernel_rfl) rfl #[.slice Av1 X.length cv1] (by rfl) rfl rfl (by simp only [List.map_toArray, List.map_cons, List.map_nil]; rfl) ?_
        with_reducible refine ((laws_kSum.calls kq Av1 cv1 X sm _ (Kd.C_below Hv1.out.2.2 (lw_then (lw_then (lw_then (lw_then (lw_then (lw_then (lw_then (lw_then (lw_then (lw_then HB3.out HB4.out) HB5.out) HB6.out) HB7.out) HB8.out) HB9.out) HB10.out) HB11.out) HB14.out) hHeld.2)) Hv1.out.2.1 HSb.out)).mono ?_
        rintro e w' ⟨rfl, ⟨n2_, rfl⟩⟩
        refine ⟨_, rfl, ?_⟩
        refine hK.out _ _ ⟨pw_cell_below (pw_below_drewN (Below.refl _ _) _) hHeld.1, pw_below_drewN hHeld.2 _⟩ (fun hHeld => ?_)
        clear hK K
        refine norm_ (a' := ?_) ?_ ?_
        rotate_left
        · show Act.put _ (some 159) _ = _
          simp only [Act.put, List.setIfInBounds_toArray, List.set_cons_zero, List.set_cons_succ, i64_w, i32_w]
          rfl
        refine pure_ (i := 4) (N := some 160) (v := ?_) (a' := ?_) #[true, true, true, true, true, false, false, false, false, false, false, false] rfl rfl (any_of HT_.out (by kernel_rfl)) (fun _ _ _ h => h) (Or.inl ⟨by rfl, ?_⟩) ?_ ?_
        rotate_left
        · intro w'
          go_simp
          with_reducible rfl
        rotate_left
        · simp only [Act.put, List.setIfInBounds_toArray, List.set_cons_zero, List.set_cons_succ, i64_w, i32_w]
          rfl
        refine pure_ (i := 5) (N := some 161) (v := ?_) (a' := ?_) #[true, true, true, true, true, true, false, false, false, false, false, false] rfl rfl (any_of HT_.out (by kernel_rfl)) (fun _ _ _ h => h) (Or.inl ⟨by rfl, ?_⟩) ?_ ?_
        rotate_left
        · intro w'
          go_simp
          with_reducible rfl
        rotate_left
        · simp only [Act.put, List.setIfInBounds_toArray, List.set_cons_zero, List.set_cons_succ, i64_w, i32_w]
          rfl
        refine pure_ (i := 6) (N := some 162) (v := ?_) (a' := ?_) #[true, true, true, true, true, true, true, false, false, false, false, false] rfl rfl (any_of HT_.out (by kernel_rfl)) (fun _ _ _ h => h) (Or.inl ⟨by rfl, ?_⟩) ?_ ?_
        rotate_left
        · intro w'
          go_simp
          with_reducible rfl
        rotate_left
        · simp only [Act.put, List.setIfInBounds_toArray, List.set_cons_zero, List.set_cons_succ, i64_w, i32_w]
          rfl
        refine pure_ (i := 8) (N := some 164) (v := ?_) (a' := ?_) #[true, true, true, true, true, true, true, false, true, false, false, false] rfl rfl (any_of HT_.out (by kernel_rfl)) (fun _ _ _ h => h) (Or.inl ⟨by rfl, ?_⟩) ?_ ?_
        rotate_left
        · intro w'
          go_simp
          with_reducible rfl
        rotate_left
        · simp only [Act.put, List.setIfInBounds_toArray, List.set_cons_zero, List.set_cons_succ, i64_w, i32_w]
          rfl
        refine take_ (i := 9) (N := some 165) (v := ?_) (a' := ?_) #[true, true, true, true, true, true, true, false, true, true, false, false] rfl rfl (take_ofW HT_.out HW_.out (by kernel_rfl)) (fun _ _ _ h => h) (Or.inl ⟨by rfl, ?_⟩) hHeld ?_ ?_
        rotate_left
        · rintro w' ⟨s0, s1⟩
          go_simp
          with_reducible rfl
        rotate_left
        · simp only [Act.put, List.setIfInBounds_toArray, List.set_cons_zero, List.set_cons_succ, i64_w, i32_w]
          rfl
        refine one_ (i := 7) (N := some 163) #[true, true, true, true, true, true, true, true, true, true, false, false] rfl rfl (one_of HT_.out (by kernel_rfl)) (by decide) (fun K hK => ?_)
        refine goes_ Try.func51 (by kernel_rfl) rfl #[.slice Av2 SV.length cv2] (by rfl) rfl rfl (by simp only [List.map_toArray, List.map_cons, List.map_nil]; rfl) ?_
        with_reducible refine ((laws_kMost.calls kq Av2 cv2 SV mo _ (Kd.C_below Hv2.out.2.2 (lw_then (lw_then (lw_then (lw_then (lw_then (lw_then (lw_then (lw_then HB5.out HB6.out) HB7.out) HB8.out) HB9.out) HB10.out) HB11.out) HB14.out) hHeld.2)) Hv2.out.2.1 HSc.out)).mono ?_
        rintro e w' ⟨rfl, ⟨n3_, rfl⟩⟩
        refine ⟨_, rfl, ?_⟩
        refine hK.out _ _ ⟨pw_cell_below (pw_below_drewN (Below.refl _ _) _) hHeld.1, pw_below_drewN hHeld.2 _⟩ (fun hHeld => ?_)
        clear hK K
        refine norm_ (a' := ?_) ?_ ?_
        rotate_left
        · show Act.put _ (some 163) _ = _
          simp only [Act.put, List.setIfInBounds_toArray, List.set_cons_zero, List.set_cons_succ, i64_w, i32_w]
          rfl
        refine pure_ (i := 10) (N := some 166) (v := ?_) (a' := ?_) #[true, true, true, true, true, true, true, true, true, true, true, false] rfl rfl (any_of HT_.out (by kernel_rfl)) (fun _ _ _ h => h) (Or.inl ⟨by rfl, ?_⟩) ?_ ?_
        rotate_left
        · intro w'
          go_simp
          with_reducible rfl
        rotate_left
        · simp only [Act.put, List.setIfInBounds_toArray, List.set_cons_zero, List.set_cons_succ, i64_w, i32_w]
          rfl
        refine pure_ (i := 11) (N := some 167) (v := ?_) (a' := ?_) #[true, true, true, true, true, true, true, true, true, true, true, true] rfl rfl (any_of HT_.out (by kernel_rfl)) (fun _ _ _ h => h) (Or.inl ⟨by rfl, ?_⟩) ?_ ?_
        rotate_left
        · intro w'
          go_simp
          with_reducible rfl
        rotate_left
        · simp only [Act.put, List.setIfInBounds_toArray, List.set_cons_zero, List.set_cons_succ, i64_w, i32_w]
          rfl
        refine done_ (done_of HT_.out (by kernel_rfl)) ?_
        generalize (((w14.drew.drewN n1_).drewN n2_).drewN n3_) = w15 at hHeld ⊢
        have HB15 := Aside0.mk hHeld.2
        clear hHeld
        have gac0_15 := pw_cell_below HB15.out gac0_14
        clear gac0_14
        have gac1_15 := pw_cell_below HB15.out gac1_14
        clear gac1_14
        have gbc0_15 := pw_cell_below HB15.out gbc0_14
        clear gbc0_14
        have gbc1_15 := pw_cell_below HB15.out gbc1_14
        clear gbc1_14
        have gcc0_15 := pw_cell_below HB15.out gcc0_14
        clear gcc0_14
        have gcc1_15 := pw_cell_below HB15.out gcc1_14
        clear gcc1_14
        go_wp2_with fail
        (refine (impl_KeepsBucket.calls kq br bd Av1 cv1 X _ _ _ (Kd.C_below Hv1.out.2.2 (by repeat (first | exact (lw_then (lw_then (lw_then (lw_then (lw_then (lw_then (lw_then (lw_then (lw_then (lw_then HB3.out HB4.out) HB5.out) HB6.out) HB7.out) HB8.out) HB9.out) HB10.out) HB11.out) HB14.out) HB15.out) | apply pw_below_drewN | apply below_drew | apply below_alloc))) Hv1.out.2.1 HKB.out).mono ?_)
        rintro e w16 ⟨rfl, hb⟩
        have HB16 := Aside0.mk (show Below w15.heap.size w15 w16 from lw_then (by repeat (first | exact (Below.refl _ _) | apply pw_below_drewN | apply below_drew | apply below_alloc)) hb)
        have gac0_16 := pw_cell_below HB16.out gac0_15
        clear gac0_15
        have gac1_16 := pw_cell_below HB16.out gac1_15
        clear gac1_15
        have gbc0_16 := pw_cell_below HB16.out gbc0_15
        clear gbc0_15
        have gbc1_16 := pw_cell_below HB16.out gbc1_15
        clear gbc1_15
        have gcc0_16 := pw_cell_below HB16.out gcc0_15
        clear gcc0_15
        have gcc1_16 := pw_cell_below HB16.out gcc1_15
        clear gcc1_15
        clear hb
        go_wp2_with fail
        (refine (impl_BacklogBound.calls vr vl br bd _ _ _ HBB.out).mono ?_)
        rintro e w17 ⟨rfl, hb⟩
        have HB17 := Aside0.mk (show Below w16.heap.size w16 w17 from lw_then (by repeat (first | exact (Below.refl _ _) | apply pw_below_drewN | apply below_drew | apply below_alloc)) hb)
        have gac0_17 := pw_cell_below HB17.out gac0_16
        clear gac0_16
        have gac1_17 := pw_cell_below HB17.out gac1_16
        clear gac1_16
        have gbc0_17 := pw_cell_below HB17.out gbc0_16
        clear gbc0_16
        have gbc1_17 := pw_cell_below HB17.out gbc1_16
        clear gbc1_16
        have gcc0_17 := pw_cell_below HB17.out gcc0_16
        clear gcc0_16
        have gcc1_17 := pw_cell_below HB17.out gcc1_16
        clear gcc1_16
        clear hb
        go_wp2_with fail
        (refine (impl_DelayBound.calls vr vl br bd _ _ _ HDB.out).mono ?_)
        rintro e w18 ⟨rfl, hb⟩
        have HB18 := Aside0.mk (show Below w17.heap.size w17 w18 from lw_then (by repeat (first | exact (Below.refl _ _) | apply pw_below_drewN | apply below_drew | apply below_alloc)) hb)
        have gac0_18 := pw_cell_below HB18.out gac0_17
        clear gac0_17
        have gac1_18 := pw_cell_below HB18.out gac1_17
        clear gac1_17
        have gbc0_18 := pw_cell_below HB18.out gbc0_17
        clear gbc0_17
        have gbc1_18 := pw_cell_below HB18.out gbc1_17
        clear gbc1_17
        have gcc0_18 := pw_cell_below HB18.out gcc0_17
        clear gcc0_17
        have gcc1_18 := pw_cell_below HB18.out gcc1_17
        clear gcc1_17
        clear hb
        go_upto_region 19 with (fail)
        go_cut [206] from 186 to 205 (fun v206 wx => v206 = .bool false ∧ Below w18.heap.size w18 wx)
        case first =>
          cases five
          focus
            go_wp2_with fail
            go_meet
            case rel => exact ⟨rfl, (by repeat (first | exact (Below.refl _ _) | apply pw_below_drewN | apply below_drew | apply below_alloc))⟩
          focus
            cases kps
            focus
              go_wp2_with fail
              go_meet
              case rel => exact ⟨rfl, (by repeat (first | exact (Below.refl _ _) | apply pw_below_drewN | apply below_drew | apply below_alloc))⟩
            focus
              cases six
              focus
                go_wp2_with fail
                go_meet
                case rel => exact ⟨rfl, (by repeat (first | exact (Below.refl _ _) | apply pw_below_drewN | apply below_drew | apply below_alloc))⟩
              focus
                obtain ⟨d1_, d2_⟩ := HC1.out (by trivial) (by trivial) (by trivial) (by trivial)
                go_wp2_with fail
                go_meet
                case rel => exact ⟨rfl, (by repeat (first | exact (Below.refl _ _) | apply pw_below_drewN | apply below_drew | apply below_alloc))⟩
        case rest =>
          obtain ⟨rfl, hcut⟩ := hcut
          generalize wc = w19 at hcut ⊢
          have HB19 := Aside0.mk (show Below w18.heap.size w18 w19 from hcut)
          clear hcut
          have gac0_19 := pw_cell_below HB19.out gac0_18
          clear gac0_18
          have gac1_19 := pw_cell_below HB19.out gac1_18
          clear gac1_18
          have gbc0_19 := pw_cell_below HB19.out gbc0_18
          clear gbc0_18
          have gbc1_19 := pw_cell_below HB19.out gbc1_18
          clear gbc1_18
          have gcc0_19 := pw_cell_below HB19.out gcc0_18
          clear gcc0_18
          have gcc1_19 := pw_cell_below HB19.out gcc1_18
          clear gcc1_18
          go_wp2_with fail
          (refine (impl_BucketBehind.calls vr vl br bd _ _ _ _ HBH.out).mono ?_)
          rintro e w20 ⟨rfl, hb⟩
          have HB20 := Aside0.mk (show Below w19.heap.size w19 w20 from lw_then (by repeat (first | exact (Below.refl _ _) | apply pw_below_drewN | apply below_drew | apply below_alloc)) hb)
          have gac0_20 := pw_cell_below HB20.out gac0_19
          clear gac0_19
          have gac1_20 := pw_cell_below HB20.out gac1_19
          clear gac1_19
          have gbc0_20 := pw_cell_below HB20.out gbc0_19
          clear gbc0_19
          have gbc1_20 := pw_cell_below HB20.out gbc1_19
          clear gbc1_19
          have gcc0_20 := pw_cell_below HB20.out gcc0_19
          clear gcc0_19
          have gcc1_20 := pw_cell_below HB20.out gcc1_19
          clear gcc1_19
          clear hb
          go_upto_region 22 with (have HCgac0_20 := Aside0.mk gac0_20; have HCgac1_20 := Aside0.mk gac1_20; have HCgbc0_20 := Aside0.mk gbc0_20; have HCgbc1_20 := Aside0.mk gbc1_20; have HCgcc0_20 := Aside0.mk gcc0_20; have HCgcc1_20 := Aside0.mk gcc1_20; (with_reducible refine gate_dst (N := 27) rfl ?_); refine box_event ?hg (N := 27) ?hd (cs := #[.int .i64 0, .int .i64 0]) (t := 67) ?hr ?_; (case hd => rfl); (case hg => rfl); (case hr => first | (go_simp; done) | (go_simp; rfl)); intro gd hgd w21 hbox hb; have HB21 := Aside0.mk (show Below w20.heap.size w20 w21 from lw_then (by repeat (first | exact (Below.refl _ _) | apply pw_below_drewN | apply below_drew | apply below_alloc)) hb); have gac0_21 := pw_cell_below HB21.out gac0_20; clear gac0_20; have gac1_21 := pw_cell_below HB21.out gac1_20; clear gac1_20; have gbc0_21 := pw_cell_below HB21.out gbc0_20; clear gbc0_20; have gbc1_21 := pw_cell_below HB21.out gbc1_20; clear gbc1_20; have gcc0_21 := pw_cell_below HB21.out gcc0_20; clear gcc0_20; have gcc1_21 := pw_cell_below HB21.out gcc1_20; clear gcc1_20; have gdc0 : w21.cell? ⟨gd, 0, none⟩ = some (.int .i64 0) := (blk_cell hbox 0).trans rfl; have gdc1 : w21.cell? ⟨gd, 1, none⟩ = some (.int .i64 0) := (blk_cell hbox 1).trans rfl; have BKgd := Aside0.mk hbox; have GEgd := Aside0.mk (show w20.heap.size ≤ gd from by rw [hgd]; exact Nat.le_refl _); have hfzgd0 := blk_frozen hbox 0; have hfzgd1 := blk_frozen hbox 1; clear hb hbox hgd)
          go_upto_region 22 with (fail)
          obtain ⟨w22, hwk⟩ : ∃ x_ : World, x_ = ((w21.setCell ⟨gd, 0, none⟩ (.int .i64 hr_)).setCell ⟨gd, 1, none⟩ (.int .i64 hd_)) := ⟨_, rfl⟩
          rw [← hwk]
          have hbk : w22.heap[gd]? = some (.cells #[.int .i64 hr_, .int .i64 hd_] 67 (0, 0)) := by rw [hwk]; exact (blk_put (blk_put BKgd.out 0 _ rfl) 1 _ rfl)
          have HB22 := Aside0.mk (show Below w20.heap.size w20 w22 from by rw [hwk]; exact (below_set (below_set HB21.out GEgd.out) GEgd.out))
          have gac0_22 := show w22.cell? _ = some _ from pw_cell_below HB22.out HCgac0_20.out
          clear gac0_21
          have gac1_22 := show w22.cell? _ = some _ from pw_cell_below HB22.out HCgac1_20.out
          clear gac1_21
          have gbc0_22 := show w22.cell? _ = some _ from pw_cell_below HB22.out HCgbc0_20.out
          clear gbc0_21
          have gbc1_22 := show w22.cell? _ = some _ from pw_cell_below HB22.out HCgbc1_20.out
          clear gbc1_21
          have gcc0_22 := show w22.cell? _ = some _ from pw_cell_below HB22.out HCgcc0_20.out
          clear gcc0_21
          have gcc1_22 := show w22.cell? _ = some _ from pw_cell_below HB22.out HCgcc1_20.out
          clear gcc1_21
          have gdc0_22 : w22.cell? ⟨gd, 0, none⟩ = some (.int .i64 hr_) := (blk_cell hbk 0).trans rfl
          have gdc1_22 : w22.cell? ⟨gd, 1, none⟩ = some (.int .i64 hd_) := (blk_cell hbk 1).trans rfl
          clear hwk hbk gdc0 gdc1 hfzgd0 hfzgd1
          cases five
          focus
            go_wp2_with fail
            go_meet
            case rel => exact (by repeat (first | exact (lw_then (lw_then (lw_then (lw_then (lw_then (lw_then HB15.out HB16.out) HB17.out) HB18.out) HB19.out) HB20.out) HB22.out) | apply pw_below_drewN | apply below_drew | apply below_alloc))
          focus
            cases kps
            focus
              go_wp2_with fail
              go_meet
              case rel => exact (by repeat (first | exact (lw_then (lw_then (lw_then (lw_then (lw_then (lw_then HB15.out HB16.out) HB17.out) HB18.out) HB19.out) HB20.out) HB22.out) | apply pw_below_drewN | apply below_drew | apply below_alloc))
            focus
              cases eight
              focus
                go_wp2_with fail
                go_meet
                case rel => exact (by repeat (first | exact (lw_then (lw_then (lw_then (lw_then (lw_then (lw_then HB15.out HB16.out) HB17.out) HB18.out) HB19.out) HB20.out) HB22.out) | apply pw_below_drewN | apply below_drew | apply below_alloc))
              focus
                go_wp2_with fail
                (refine (impl_IsTraffic.calls Av2 cv2 SV _ _ (Kd.C_below Hv2.out.2.2 (by repeat (first | exact (lw_then (lw_then (lw_then (lw_then (lw_then (lw_then (lw_then (lw_then (lw_then (lw_then (lw_then (lw_then (lw_then (lw_then HB5.out HB6.out) HB7.out) HB8.out) HB9.out) HB10.out) HB11.out) HB14.out) HB15.out) HB16.out) HB17.out) HB18.out) HB19.out) HB20.out) HB22.out) | apply pw_below_drewN | apply below_drew | apply below_alloc))) Hv2.out.2.1 HIT.out).mono ?_)
                rintro e w23 ⟨rfl, hb⟩
                have HB23 := Aside0.mk (show Below w22.heap.size w22 w23 from lw_then (by repeat (first | exact (Below.refl _ _) | apply pw_below_drewN | apply below_drew | apply below_alloc)) hb)
                have gac0_23 := pw_cell_below HB23.out gac0_22
                clear gac0_22
                have gac1_23 := pw_cell_below HB23.out gac1_22
                clear gac1_22
                have gbc0_23 := pw_cell_below HB23.out gbc0_22
                clear gbc0_22
                have gbc1_23 := pw_cell_below HB23.out gbc1_22
                clear gbc1_22
                have gcc0_23 := pw_cell_below HB23.out gcc0_22
                clear gcc0_22
                have gcc1_23 := pw_cell_below HB23.out gcc1_22
                clear gcc1_22
                have gdc0_23 := pw_cell_below HB23.out gdc0_22
                clear gdc0_22
                have gdc1_23 := pw_cell_below HB23.out gdc1_22
                clear gdc1_22
                clear hb
                cases it
                focus
                  go_wp2_with fail
                  go_meet
                  case rel => exact (by repeat (first | exact (lw_then (lw_then (lw_then (lw_then (lw_then (lw_then (lw_then HB15.out HB16.out) HB17.out) HB18.out) HB19.out) HB20.out) HB22.out) HB23.out) | apply pw_below_drewN | apply below_drew | apply below_alloc))
                focus
                  go_wp2_with fail
                  (refine (impl_KeepsBucket.calls kq hr_ hd_ Av2 cv2 SV _ _ _ (Kd.C_below Hv2.out.2.2 (by repeat (first | exact (lw_then (lw_then (lw_then (lw_then (lw_then (lw_then (lw_then (lw_then (lw_then (lw_then (lw_then (lw_then (lw_then (lw_then (lw_then HB5.out HB6.out) HB7.out) HB8.out) HB9.out) HB10.out) HB11.out) HB14.out) HB15.out) HB16.out) HB17.out) HB18.out) HB19.out) HB20.out) HB22.out) HB23.out) | apply pw_below_drewN | apply below_drew | apply below_alloc))) Hv2.out.2.1 (HC2.out (by trivial) (by trivial) (by trivial) (by trivial) (by trivial))).mono ?_)
                  rintro e w24 ⟨rfl, hb⟩
                  have HB24 := Aside0.mk (show Below w23.heap.size w23 w24 from lw_then (by repeat (first | exact (Below.refl _ _) | apply pw_below_drewN | apply below_drew | apply below_alloc)) hb)
                  have gac0_24 := pw_cell_below HB24.out gac0_23
                  clear gac0_23
                  have gac1_24 := pw_cell_below HB24.out gac1_23
                  clear gac1_23
                  have gbc0_24 := pw_cell_below HB24.out gbc0_23
                  clear gbc0_23
                  have gbc1_24 := pw_cell_below HB24.out gbc1_23
                  clear gbc1_23
                  have gcc0_24 := pw_cell_below HB24.out gcc0_23
                  clear gcc0_23
                  have gcc1_24 := pw_cell_below HB24.out gcc1_23
                  clear gcc1_23
                  have gdc0_24 := pw_cell_below HB24.out gdc0_23
                  clear gdc0_23
                  have gdc1_24 := pw_cell_below HB24.out gdc1_23
                  clear gdc1_23
                  clear hb
                  go_wp2_with fail
                  go_meet
                  case rel => exact (by repeat (first | exact (lw_then (lw_then (lw_then (lw_then (lw_then (lw_then (lw_then (lw_then HB15.out HB16.out) HB17.out) HB18.out) HB19.out) HB20.out) HB22.out) HB23.out) HB24.out) | apply pw_below_drewN | apply below_drew | apply below_alloc))
    case rest =>
      generalize wc = w15 at hcut ⊢
      have HB15 := Aside0.mk (show Below w14.heap.size w14 w15 from hcut)
      clear hcut
      have gac0_15 := pw_cell_below HB15.out gac0_14
      clear gac0_14
      have gac1_15 := pw_cell_below HB15.out gac1_14
      clear gac1_14
      have gbc0_15 := pw_cell_below HB15.out gbc0_14
      clear gbc0_14
      have gbc1_15 := pw_cell_below HB15.out gbc1_14
      clear gbc1_14
      have gcc0_15 := pw_cell_below HB15.out gcc0_14
      clear gcc0_14
      have gcc1_15 := pw_cell_below HB15.out gcc1_14
      clear gcc1_14
      clear gac0_15 gac1_15
      go_wp2_with fail
      (refine (impl_BacklogBound.calls wr wl br bd _ _ _ HBB2.out).mono ?_)
      rintro e w16 ⟨rfl, hb⟩
      have HB16 := Aside0.mk (show Below w15.heap.size w15 w16 from lw_then (by repeat (first | exact (Below.refl _ _) | apply pw_below_drewN | apply below_drew | apply below_alloc)) hb)
      have gbc0_16 := pw_cell_below HB16.out gbc0_15
      clear gbc0_15
      have gbc1_16 := pw_cell_below HB16.out gbc1_15
      clear gbc1_15
      have gcc0_16 := pw_cell_below HB16.out gcc0_15
      clear gcc0_15
      have gcc1_16 := pw_cell_below HB16.out gcc1_15
      clear gcc1_15
      clear hb
      go_wp2_with fail
      (refine (spec_BacklogBound.calls wr wl br bd _ _ _ HBB3.out).mono ?_)
      rintro e w17 ⟨rfl, hb⟩
      have HB17 := Aside0.mk (show Below w16.heap.size w16 w17 from lw_then (by repeat (first | exact (Below.refl _ _) | apply pw_below_drewN | apply below_drew | apply below_alloc)) hb)
      have gbc0_17 := pw_cell_below HB17.out gbc0_16
      clear gbc0_16
      have gbc1_17 := pw_cell_below HB17.out gbc1_16
      clear gbc1_16
      have gcc0_17 := pw_cell_below HB17.out gcc0_16
      clear gcc0_16
      have gcc1_17 := pw_cell_below HB17.out gcc1_16
      clear gcc1_16
      clear hb
      go_wp2_with fail
      (refine (impl_DelayBound.calls wr wl br bd _ _ _ HDB2.out).mono ?_)
      rintro e w18 ⟨rfl, hb⟩
      have HB18 := Aside0.mk (show Below w17.heap.size w17 w18 from lw_then (by repeat (first | exact (Below.refl _ _) | apply pw_below_drewN | apply below_drew | apply below_alloc)) hb)
      have gbc0_18 := pw_cell_below HB18.out gbc0_17
      clear gbc0_17
      have gbc1_18 := pw_cell_below HB18.out gbc1_17
      clear gbc1_17
      have gcc0_18 := pw_cell_below HB18.out gcc0_17
      clear gcc0_17
      have gcc1_18 := pw_cell_below HB18.out gcc1_17
      clear gcc1_17
      clear hb
      go_wp2_with fail
      (refine (spec_DelayBound.calls wr wl br bd _ _ _ HDB3.out).mono ?_)
      rintro e w19 ⟨rfl, hb⟩
      have HB19 := Aside0.mk (show Below w18.heap.size w18 w19 from lw_then (by repeat (first | exact (Below.refl _ _) | apply pw_below_drewN | apply below_drew | apply below_alloc)) hb)
      have gbc0_19 := pw_cell_below HB19.out gbc0_18
      clear gbc0_18
      have gbc1_19 := pw_cell_below HB19.out gbc1_18
      clear gbc1_18
      have gcc0_19 := pw_cell_below HB19.out gcc0_18
      clear gcc0_18
      have gcc1_19 := pw_cell_below HB19.out gcc1_18
      clear gcc1_18
      clear hb
      go_wp2_with fail
      (refine (impl_BucketBehind.calls wr wl br bd _ _ _ _ HBH2.out).mono ?_)
      rintro e w20 ⟨rfl, hb⟩
      have HB20 := Aside0.mk (show Below w19.heap.size w19 w20 from lw_then (by repeat (first | exact (Below.refl _ _) | apply pw_below_drewN | apply below_drew | apply below_alloc)) hb)
      have gbc0_20 := pw_cell_below HB20.out gbc0_19
      clear gbc0_19
      have gbc1_20 := pw_cell_below HB20.out gbc1_19
      clear gbc1_19
      have gcc0_20 := pw_cell_below HB20.out gcc0_19
      clear gcc0_19
      have gcc1_20 := pw_cell_below HB20.out gcc1_19
      clear gcc1_19
      clear hb
      go_upto_region 31 with (have HCgbc0_20 := Aside0.mk gbc0_20; have HCgbc1_20 := Aside0.mk gbc1_20; have HCgcc0_20 := Aside0.mk gcc0_20; have HCgcc1_20 := Aside0.mk gcc1_20; (with_reducible refine gate_dst (N := 39) rfl ?_); refine box_event ?hg (N := 39) ?hd (cs := #[.int .i64 0, .int .i64 0]) (t := 67) ?hr ?_; (case hd => rfl); (case hg => rfl); (case hr => first | (go_simp; done) | (go_simp; rfl)); intro ge hge w21 hbox hb; have HB21 := Aside0.mk (show Below w20.heap.size w20 w21 from lw_then (by repeat (first | exact (Below.refl _ _) | apply pw_below_drewN | apply below_drew | apply below_alloc)) hb); have gbc0_21 := pw_cell_below HB21.out gbc0_20; clear gbc0_20; have gbc1_21 := pw_cell_below HB21.out gbc1_20; clear gbc1_20; have gcc0_21 := pw_cell_below HB21.out gcc0_20; clear gcc0_20; have gcc1_21 := pw_cell_below HB21.out gcc1_20; clear gcc1_20; have gec0 : w21.cell? ⟨ge, 0, none⟩ = some (.int .i64 0) := (blk_cell hbox 0).trans rfl; have gec1 : w21.cell? ⟨ge, 1, none⟩ = some (.int .i64 0) := (blk_cell hbox 1).trans rfl; have BKge := Aside0.mk hbox; have GEge := Aside0.mk (show w20.heap.size ≤ ge from by rw [hge]; exact Nat.le_refl _); have hfzge0 := blk_frozen hbox 0; have hfzge1 := blk_frozen hbox 1; clear hb hbox hge)
      go_upto_region 31 with (fail)
      obtain ⟨w22, hwk⟩ : ∃ x_ : World, x_ = ((w21.setCell ⟨ge, 0, none⟩ (.int .i64 h2r)).setCell ⟨ge, 1, none⟩ (.int .i64 h2d)) := ⟨_, rfl⟩
      rw [← hwk]
      have hbk : w22.heap[ge]? = some (.cells #[.int .i64 h2r, .int .i64 h2d] 67 (0, 0)) := by rw [hwk]; exact (blk_put (blk_put BKge.out 0 _ rfl) 1 _ rfl)
      have HB22 := Aside0.mk (show Below w20.heap.size w20 w22 from by rw [hwk]; exact (below_set (below_set HB21.out GEge.out) GEge.out))
      have gbc0_22 := show w22.cell? _ = some _ from pw_cell_below HB22.out HCgbc0_20.out
      clear gbc0_21
      have gbc1_22 := show w22.cell? _ = some _ from pw_cell_below HB22.out HCgbc1_20.out
      clear gbc1_21
      have gcc0_22 := show w22.cell? _ = some _ from pw_cell_below HB22.out HCgcc0_20.out
      clear gcc0_21
      have gcc1_22 := show w22.cell? _ = some _ from pw_cell_below HB22.out HCgcc1_20.out
      clear gcc1_21
      have gec0_22 : w22.cell? ⟨ge, 0, none⟩ = some (.int .i64 h2r) := (blk_cell hbk 0).trans rfl
      have gec1_22 : w22.cell? ⟨ge, 1, none⟩ = some (.int .i64 h2d) := (blk_cell hbk 1).trans rfl
      clear hwk hbk gec0 gec1 hfzge0 hfzge1
      go_wp2_with fail
      (refine (spec_BucketBehind.calls wr wl br bd _ _ _ _ HBH3.out).mono ?_)
      rintro e w23 ⟨rfl, hb⟩
      have HB23 := Aside0.mk (show Below w22.heap.size w22 w23 from lw_then (by repeat (first | exact (Below.refl _ _) | apply pw_below_drewN | apply below_drew | apply below_alloc)) hb)
      have gbc0_23 := pw_cell_below HB23.out gbc0_22
      clear gbc0_22
      have gbc1_23 := pw_cell_below HB23.out gbc1_22
      clear gbc1_22
      have gcc0_23 := pw_cell_below HB23.out gcc0_22
      clear gcc0_22
      have gcc1_23 := pw_cell_below HB23.out gcc1_22
      clear gcc1_22
      have gec0_23 := pw_cell_below HB23.out gec0_22
      clear gec0_22
      have gec1_23 := pw_cell_below HB23.out gec1_22
      clear gec1_22
      clear hb
      go_upto_region 32 with (have HCgbc0_23 := Aside0.mk gbc0_23; have HCgbc1_23 := Aside0.mk gbc1_23; have HCgcc0_23 := Aside0.mk gcc0_23; have HCgcc1_23 := Aside0.mk gcc1_23; have HCgec0_23 := Aside0.mk gec0_23; have HCgec1_23 := Aside0.mk gec1_23; (with_reducible refine gate_dst (N := 41) rfl ?_); refine box_event ?hg (N := 41) ?hd (cs := #[.int .i64 0, .int .i64 0]) (t := 67) ?hr ?_; (case hd => rfl); (case hg => rfl); (case hr => first | (go_simp; done) | (go_simp; rfl)); intro gf hgf w24 hbox hb; have HB24 := Aside0.mk (show Below w23.heap.size w23 w24 from lw_then (by repeat (first | exact (Below.refl _ _) | apply pw_below_drewN | apply below_drew | apply below_alloc)) hb); have gbc0_24 := pw_cell_below HB24.out gbc0_23; clear gbc0_23; have gbc1_24 := pw_cell_below HB24.out gbc1_23; clear gbc1_23; have gcc0_24 := pw_cell_below HB24.out gcc0_23; clear gcc0_23; have gcc1_24 := pw_cell_below HB24.out gcc1_23; clear gcc1_23; have gec0_24 := pw_cell_below HB24.out gec0_23; clear gec0_23; have gec1_24 := pw_cell_below HB24.out gec1_23; clear gec1_23; have gfc0 : w24.cell? ⟨gf, 0, none⟩ = some (.int .i64 0) := (blk_cell hbox 0).trans rfl; have gfc1 : w24.cell? ⟨gf, 1, none⟩ = some (.int .i64 0) := (blk_cell hbox 1).trans rfl; have BKgf := Aside0.mk hbox; have GEgf := Aside0.mk (show w23.heap.size ≤ gf from by rw [hgf]; exact Nat.le_refl _); have hfzgf0 := blk_frozen hbox 0; have hfzgf1 := blk_frozen hbox 1; clear hb hbox hgf)
      go_upto_region 32 with (fail)
      obtain ⟨w25, hwk⟩ : ∃ x_ : World, x_ = ((w24.setCell ⟨gf, 0, none⟩ (.int .i64 h2r)).setCell ⟨gf, 1, none⟩ (.int .i64 h2d)) := ⟨_, rfl⟩
      rw [← hwk]
      have hbk : w25.heap[gf]? = some (.cells #[.int .i64 h2r, .int .i64 h2d] 67 (0, 0)) := by rw [hwk]; exact (blk_put (blk_put BKgf.out 0 _ rfl) 1 _ rfl)
      have HB25 := Aside0.mk (show Below w23.heap.size w23 w25 from by rw [hwk]; exact (below_set (below_set HB24.out GEgf.out) GEgf.out))
      have gbc0_25 := show w25.cell? _ = some _ from pw_cell_below HB25.out HCgbc0_23.out
      clear gbc0_24
      have gbc1_25 := show w25.cell? _ = some _ from pw_cell_below HB25.out HCgbc1_23.out
      clear gbc1_24
      have gcc0_25 := show w25.cell? _ = some _ from pw_cell_below HB25.out HCgcc0_23.out
      clear gcc0_24
      have gcc1_25 := show w25.cell? _ = some _ from pw_cell_below HB25.out HCgcc1_23.out
      clear gcc1_24
      have gec0_25 := show w25.cell? _ = some _ from pw_cell_below HB25.out HCgec0_23.out
      clear gec0_24
      have gec1_25 := show w25.cell? _ = some _ from pw_cell_below HB25.out HCgec1_23.out
      clear gec1_24
      have gfc0_25 : w25.cell? ⟨gf, 0, none⟩ = some (.int .i64 h2r) := (blk_cell hbk 0).trans rfl
      have gfc1_25 : w25.cell? ⟨gf, 1, none⟩ = some (.int .i64 h2d) := (blk_cell hbk 1).trans rfl
      clear hwk hbk gfc0 gfc1 hfzgf0 hfzgf1
      go_upto_region 32 with (fail)
      go_cut [324] from 272 to 323 (fun v324 wx => v324 = .bool false ∧ Below w25.heap.size w25 wx)
      case first =>
        cases nine
        focus
          go_wp2_with fail
          go_meet
          case rel => exact ⟨rfl, (by repeat (first | exact (Below.refl _ _) | apply pw_below_drewN | apply below_drew | apply below_alloc))⟩
        focus
          obtain ⟨rfl, rfl, rfl⟩ := HC3.out (by trivial)
          go_wp2_with fail
          go_meet
          case rel => exact ⟨rfl, (by repeat (first | exact (Below.refl _ _) | apply pw_below_drewN | apply below_drew | apply below_alloc))⟩
      case rest =>
        obtain ⟨rfl, hcut⟩ := hcut
        generalize wc = w26 at hcut ⊢
        have HB26 := Aside0.mk (show Below w25.heap.size w25 w26 from hcut)
        clear hcut
        have gbc0_26 := pw_cell_below HB26.out gbc0_25
        clear gbc0_25
        have gbc1_26 := pw_cell_below HB26.out gbc1_25
        clear gbc1_25
        have gcc0_26 := pw_cell_below HB26.out gcc0_25
        clear gcc0_25
        have gcc1_26 := pw_cell_below HB26.out gcc1_25
        clear gcc1_25
        have gec0_26 := pw_cell_below HB26.out gec0_25
        clear gec0_25
        have gec1_26 := pw_cell_below HB26.out gec1_25
        clear gec1_25
        have gfc0_26 := pw_cell_below HB26.out gfc0_25
        clear gfc0_25
        have gfc1_26 := pw_cell_below HB26.out gfc1_25
        clear gfc1_25
        clear gbc0_26 gbc1_26 gcc0_26 gcc1_26 gec0_26 gec1_26 gfc0_26 gfc1_26
        go_wp2_with fail
        (refine (spec_DrawInRow.calls B e m _ _ _ _ _ (Kd.C_below HB.out (by repeat (first | exact (lw_then (lw_then (lw_then (lw_then (lw_then (lw_then (lw_then (lw_then (lw_then (lw_then (lw_then (lw_then (lw_then (lw_then (lw_then (lw_then (lw_then (lw_then (lw_then (lw_then HB1.out HB3.out) HB4.out) HB5.out) HB6.out) HB7.out) HB8.out) HB9.out) HB10.out) HB11.out) HB14.out) HB15.out) HB16.out) HB17.out) HB18.out) HB19.out) HB20.out) HB22.out) HB23.out) HB25.out) HB26.out) | apply pw_below_drewN | apply below_drew | apply below_alloc))) HBL.out HD3.out).mono ?_)
        rintro e w27 ⟨rfl, hb⟩
        have HB27 := Aside0.mk (show Below w26.heap.size w26 w27 from lw_then (by repeat (first | exact (Below.refl _ _) | apply pw_below_drewN | apply below_drew | apply below_alloc)) hb)
        clear hb
        go_upto_region 35 with (first | ((with_reducible refine gate_dst (N := 43) rfl ?_); refine box_event ?hg (N := 43) ?hd (cs := #[.int .i64 0, .int .i64 0]) (t := 37) ?hr ?_; (case hd => rfl); (case hg => rfl); (case hr => first | (go_simp; done) | (go_simp; rfl)); intro gg hg w28 hbox hb; have HB28 := Aside0.mk (show Below w27.heap.size w27 w28 from lw_then (by repeat (first | exact (Below.refl _ _) | apply pw_below_drewN | apply below_drew | apply below_alloc)) hb); have BK1 := Aside0.mk hbox; have GE1 := Aside0.mk (show w27.heap.size ≤ gg from by rw [hg]; exact Nat.le_refl _); clear hb hbox hg) | ((with_reducible refine gate_dst (N := 44) rfl ?_); refine box_event ?hg (N := 44) ?hd (cs := #[.int .i64 0, .int .i64 0]) (t := 37) ?hr ?_; (case hd => rfl); (case hg => rfl); (case hr => first | (go_simp; done) | (go_simp; rfl)); intro gh hg w29 hbox hb; have HB29 := Aside0.mk (show Below w28.heap.size w28 w29 from lw_then (by repeat (first | exact (Below.refl _ _) | apply pw_below_drewN | apply below_drew | apply below_alloc)) hb); have BK2 := Aside0.mk hbox; have GE2 := Aside0.mk (show w28.heap.size ≤ gh from by rw [hg]; exact Nat.le_refl _); have BK3 := Aside0.mk (blk_below BK1.out HB29.out); have HNE := Aside0.mk (show gg ≠ gh from by have h1_ := blk_lt BK1.out; have h2_ := GE2.out; omega); have hne1 := HNE.out; have hne2 := HNE.out.symm; have hcgg0 : w29.cell? ⟨gg, 0, none⟩ = some (.int .i64 0) := (blk_cell BK3.out 0).trans rfl; have hfzgg0 := blk_frozen BK3.out 0; have hcgg1 : w29.cell? ⟨gg, 1, none⟩ = some (.int .i64 0) := (blk_cell BK3.out 1).trans rfl; have hfzgg1 := blk_frozen BK3.out 1; have hcgh0 : w29.cell? ⟨gh, 0, none⟩ = some (.int .i64 0) := (blk_cell BK2.out 0).trans rfl; have hfzgh0 := blk_frozen BK2.out 0; have hcgh1 : w29.cell? ⟨gh, 1, none⟩ = some (.int .i64 0) := (blk_cell BK2.out 1).trans rfl; have hfzgh1 := blk_frozen BK2.out 1; clear hb hbox hg))
        go_upto_region 35 with (fail)
        obtain ⟨w30, hwk⟩ : ∃ x_ : World, x_ = ((((w29.setCell ⟨gg, 0, none⟩ (.int .i64 pa)).setCell ⟨gg, 1, none⟩ (.int .i64 pb)).setCell ⟨gh, 0, none⟩ (.int .i64 qa)).setCell ⟨gh, 1, none⟩ (.int .i64 qb)) := ⟨_, rfl⟩
        rw [← hwk]
        have hb1 : w30.heap[gg]? = some (.cells #[.int .i64 pa, .int .i64 pb] 37 (0, 0)) := by rw [hwk]; exact (blk_far (blk_far (blk_put (blk_put BK3.out 0 _ rfl) 1 _ rfl) HNE.out _) HNE.out _)
        have hb2 : w30.heap[gh]? = some (.cells #[.int .i64 qa, .int .i64 qb] 37 (0, 0)) := by rw [hwk]; exact (blk_put (blk_put (blk_far (blk_far BK2.out HNE.out.symm _) HNE.out.symm _) 0 _ rfl) 1 _ rfl)
        have HB30 := Aside0.mk (show Below w27.heap.size w27 w30 from by rw [hwk]; exact (below_set (below_set (below_set (below_set (lw_then HB28.out HB29.out) GE1.out) GE1.out) (Nat.le_trans HB28.out.size GE2.out)) (Nat.le_trans HB28.out.size GE2.out)))
        have ggc0_30 : w30.cell? ⟨gg, 0, none⟩ = some (.int .i64 pa) := (blk_cell hb1 0).trans rfl
        have ggc1_30 : w30.cell? ⟨gg, 1, none⟩ = some (.int .i64 pb) := (blk_cell hb1 1).trans rfl
        have ghc0_30 : w30.cell? ⟨gh, 0, none⟩ = some (.int .i64 qa) := (blk_cell hb2 0).trans rfl
        have ghc1_30 : w30.cell? ⟨gh, 1, none⟩ = some (.int .i64 qb) := (blk_cell hb2 1).trans rfl
        clear hwk hb1 hb2 hne1 hne2 BK1 BK2 BK3 GE1 GE2 HNE hcgg0 hfzgg0 hcgg1 hfzgg1 hcgh0 hfzgh0 hcgh1 hfzgh1
        go_wp2_with fail
        (refine (impl_InRow.calls kq pa pb qa qb _ _ _ _ HR1.out).mono ?_)
        rintro e w31 ⟨rfl, hb⟩
        have HB31 := Aside0.mk (show Below w30.heap.size w30 w31 from lw_then (by repeat (first | exact (Below.refl _ _) | apply pw_below_drewN | apply below_drew | apply below_alloc)) hb)
        have ggc0_31 := pw_cell_below HB31.out ggc0_30
        clear ggc0_30
        have ggc1_31 := pw_cell_below HB31.out ggc1_30
        clear ggc1_30
        have ghc0_31 := pw_cell_below HB31.out ghc0_30
        clear ghc0_30
        have ghc1_31 := pw_cell_below HB31.out ghc1_30
        clear ghc1_30
        clear hb
        go_upto_region 36 with (have HCggc0_31 := Aside0.mk ggc0_31; have HCggc1_31 := Aside0.mk ggc1_31; have HCghc0_31 := Aside0.mk ghc0_31; have HCghc1_31 := Aside0.mk ghc1_31; (with_reducible refine gate_dst (N := 45) rfl ?_); refine box_event ?hg (N := 45) ?hd (cs := #[.int .i64 0, .int .i64 0]) (t := 37) ?hr ?_; (case hd => rfl); (case hg => rfl); (case hr => first | (go_simp; done) | (go_simp; rfl)); intro gi hgi w32 hbox hb; have HB32 := Aside0.mk (show Below w31.heap.size w31 w32 from lw_then (by repeat (first | exact (Below.refl _ _) | apply pw_below_drewN | apply below_drew | apply below_alloc)) hb); have ggc0_32 := pw_cell_below HB32.out ggc0_31; clear ggc0_31; have ggc1_32 := pw_cell_below HB32.out ggc1_31; clear ggc1_31; have ghc0_32 := pw_cell_below HB32.out ghc0_31; clear ghc0_31; have ghc1_32 := pw_cell_below HB32.out ghc1_31; clear ghc1_31; have gic0 : w32.cell? ⟨gi, 0, none⟩ = some (.int .i64 0) := (blk_cell hbox 0).trans rfl; have gic1 : w32.cell? ⟨gi, 1, none⟩ = some (.int .i64 0) := (blk_cell hbox 1).trans rfl; have BKgi := Aside0.mk hbox; have GEgi := Aside0.mk (show w31.heap.size ≤ gi from by rw [hgi]; exact Nat.le_refl _); have hfzgi0 := blk_frozen hbox 0; have hfzgi1 := blk_frozen hbox 1; clear hb hbox hgi)
        go_upto_region 36 with (fail)
        obtain ⟨w33, hwk⟩ : ∃ x_ : World, x_ = ((w32.setCell ⟨gi, 0, none⟩ (.int .i64 ra)).setCell ⟨gi, 1, none⟩ (.int .i64 rb)) := ⟨_, rfl⟩
        rw [← hwk]
        have hbk : w33.heap[gi]? = some (.cells #[.int .i64 ra, .int .i64 rb] 37 (0, 0)) := by rw [hwk]; exact (blk_put (blk_put BKgi.out 0 _ rfl) 1 _ rfl)
        have HB33 := Aside0.mk (show Below w31.heap.size w31 w33 from by rw [hwk]; exact (below_set (below_set HB32.out GEgi.out) GEgi.out))
        have ggc0_33 := show w33.cell? _ = some _ from pw_cell_below HB33.out HCggc0_31.out
        clear ggc0_32
        have ggc1_33 := show w33.cell? _ = some _ from pw_cell_below HB33.out HCggc1_31.out
        clear ggc1_32
        have ghc0_33 := show w33.cell? _ = some _ from pw_cell_below HB33.out HCghc0_31.out
        clear ghc0_32
        have ghc1_33 := show w33.cell? _ = some _ from pw_cell_below HB33.out HCghc1_31.out
        clear ghc1_32
        have gic0_33 : w33.cell? ⟨gi, 0, none⟩ = some (.int .i64 ra) := (blk_cell hbk 0).trans rfl
        have gic1_33 : w33.cell? ⟨gi, 1, none⟩ = some (.int .i64 rb) := (blk_cell hbk 1).trans rfl
        clear hwk hbk gic0 gic1 hfzgi0 hfzgi1
        go_wp2_with fail
        (refine (spec_InRow.calls kq pa pb qa qb _ _ _ _ HR2.out).mono ?_)
        rintro e w34 ⟨rfl, hb⟩
        have HB34 := Aside0.mk (show Below w33.heap.size w33 w34 from lw_then (by repeat (first | exact (Below.refl _ _) | apply pw_below_drewN | apply below_drew | apply below_alloc)) hb)
        have ggc0_34 := pw_cell_below HB34.out ggc0_33
        clear ggc0_33
        have ggc1_34 := pw_cell_below HB34.out ggc1_33
        clear ggc1_33
        have ghc0_34 := pw_cell_below HB34.out ghc0_33
        clear ghc0_33
        have ghc1_34 := pw_cell_below HB34.out ghc1_33
        clear ghc1_33
        have gic0_34 := pw_cell_below HB34.out gic0_33
        clear gic0_33
        have gic1_34 := pw_cell_below HB34.out gic1_33
        clear gic1_33
        clear hb
        go_upto_region 37 with (have HCggc0_34 := Aside0.mk ggc0_34; have HCggc1_34 := Aside0.mk ggc1_34; have HCghc0_34 := Aside0.mk ghc0_34; have HCghc1_34 := Aside0.mk ghc1_34; have HCgic0_34 := Aside0.mk gic0_34; have HCgic1_34 := Aside0.mk gic1_34; (with_reducible refine gate_dst (N := 47) rfl ?_); refine box_event ?hg (N := 47) ?hd (cs := #[.int .i64 0, .int .i64 0]) (t := 37) ?hr ?_; (case hd => rfl); (case hg => rfl); (case hr => first | (go_simp; done) | (go_simp; rfl)); intro gj hgj w35 hbox hb; have HB35 := Aside0.mk (show Below w34.heap.size w34 w35 from lw_then (by repeat (first | exact (Below.refl _ _) | apply pw_below_drewN | apply below_drew | apply below_alloc)) hb); have ggc0_35 := pw_cell_below HB35.out ggc0_34; clear ggc0_34; have ggc1_35 := pw_cell_below HB35.out ggc1_34; clear ggc1_34; have ghc0_35 := pw_cell_below HB35.out ghc0_34; clear ghc0_34; have ghc1_35 := pw_cell_below HB35.out ghc1_34; clear ghc1_34; have gic0_35 := pw_cell_below HB35.out gic0_34; clear gic0_34; have gic1_35 := pw_cell_below HB35.out gic1_34; clear gic1_34; have gjc0 : w35.cell? ⟨gj, 0, none⟩ = some (.int .i64 0) := (blk_cell hbox 0).trans rfl; have gjc1 : w35.cell? ⟨gj, 1, none⟩ = some (.int .i64 0) := (blk_cell hbox 1).trans rfl; have BKgj := Aside0.mk hbox; have GEgj := Aside0.mk (show w34.heap.size ≤ gj from by rw [hgj]; exact Nat.le_refl _); have hfzgj0 := blk_frozen hbox 0; have hfzgj1 := blk_frozen hbox 1; clear hb hbox hgj)
        go_upto_region 37 with (fail)
        obtain ⟨w36, hwk⟩ : ∃ x_ : World, x_ = ((w35.setCell ⟨gj, 0, none⟩ (.int .i64 ra)).setCell ⟨gj, 1, none⟩ (.int .i64 rb)) := ⟨_, rfl⟩
        rw [← hwk]
        have hbk : w36.heap[gj]? = some (.cells #[.int .i64 ra, .int .i64 rb] 37 (0, 0)) := by rw [hwk]; exact (blk_put (blk_put BKgj.out 0 _ rfl) 1 _ rfl)
        have HB36 := Aside0.mk (show Below w34.heap.size w34 w36 from by rw [hwk]; exact (below_set (below_set HB35.out GEgj.out) GEgj.out))
        have ggc0_36 := show w36.cell? _ = some _ from pw_cell_below HB36.out HCggc0_34.out
        clear ggc0_35
        have ggc1_36 := show w36.cell? _ = some _ from pw_cell_below HB36.out HCggc1_34.out
        clear ggc1_35
        have ghc0_36 := show w36.cell? _ = some _ from pw_cell_below HB36.out HCghc0_34.out
        clear ghc0_35
        have ghc1_36 := show w36.cell? _ = some _ from pw_cell_below HB36.out HCghc1_34.out
        clear ghc1_35
        have gic0_36 := show w36.cell? _ = some _ from pw_cell_below HB36.out HCgic0_34.out
        clear gic0_35
        have gic1_36 := show w36.cell? _ = some _ from pw_cell_below HB36.out HCgic1_34.out
        clear gic1_35
        have gjc0_36 : w36.cell? ⟨gj, 0, none⟩ = some (.int .i64 ra) := (blk_cell hbk 0).trans rfl
        have gjc1_36 : w36.cell? ⟨gj, 1, none⟩ = some (.int .i64 rb) := (blk_cell hbk 1).trans rfl
        clear hwk hbk gjc0 gjc1 hfzgj0 hfzgj1
        go_wp2_with fail
        (refine (impl_InRow.calls kq qa qb pa pb _ _ _ _ HR3.out).mono ?_)
        rintro e w37 ⟨rfl, hb⟩
        have HB37 := Aside0.mk (show Below w36.heap.size w36 w37 from lw_then (by repeat (first | exact (Below.refl _ _) | apply pw_below_drewN | apply below_drew | apply below_alloc)) hb)
        have ggc0_37 := pw_cell_below HB37.out ggc0_36
        clear ggc0_36
        have ggc1_37 := pw_cell_below HB37.out ggc1_36
        clear ggc1_36
        have ghc0_37 := pw_cell_below HB37.out ghc0_36
        clear ghc0_36
        have ghc1_37 := pw_cell_below HB37.out ghc1_36
        clear ghc1_36
        have gic0_37 := pw_cell_below HB37.out gic0_36
        clear gic0_36
        have gic1_37 := pw_cell_below HB37.out gic1_36
        clear gic1_36
        have gjc0_37 := pw_cell_below HB37.out gjc0_36
        clear gjc0_36
        have gjc1_37 := pw_cell_below HB37.out gjc1_36
        clear gjc1_36
        clear hb
        go_upto_region 38 with (have HCggc0_37 := Aside0.mk ggc0_37; have HCggc1_37 := Aside0.mk ggc1_37; have HCghc0_37 := Aside0.mk ghc0_37; have HCghc1_37 := Aside0.mk ghc1_37; have HCgic0_37 := Aside0.mk gic0_37; have HCgic1_37 := Aside0.mk gic1_37; have HCgjc0_37 := Aside0.mk gjc0_37; have HCgjc1_37 := Aside0.mk gjc1_37; (with_reducible refine gate_dst (N := 49) rfl ?_); refine box_event ?hg (N := 49) ?hd (cs := #[.int .i64 0, .int .i64 0]) (t := 37) ?hr ?_; (case hd => rfl); (case hg => rfl); (case hr => first | (go_simp; done) | (go_simp; rfl)); intro gk hgk w38 hbox hb; have HB38 := Aside0.mk (show Below w37.heap.size w37 w38 from lw_then (by repeat (first | exact (Below.refl _ _) | apply pw_below_drewN | apply below_drew | apply below_alloc)) hb); have ggc0_38 := pw_cell_below HB38.out ggc0_37; clear ggc0_37; have ggc1_38 := pw_cell_below HB38.out ggc1_37; clear ggc1_37; have ghc0_38 := pw_cell_below HB38.out ghc0_37; clear ghc0_37; have ghc1_38 := pw_cell_below HB38.out ghc1_37; clear ghc1_37; have gic0_38 := pw_cell_below HB38.out gic0_37; clear gic0_37; have gic1_38 := pw_cell_below HB38.out gic1_37; clear gic1_37; have gjc0_38 := pw_cell_below HB38.out gjc0_37; clear gjc0_37; have gjc1_38 := pw_cell_below HB38.out gjc1_37; clear gjc1_37; have gkc0 : w38.cell? ⟨gk, 0, none⟩ = some (.int .i64 0) := (blk_cell hbox 0).trans rfl; have gkc1 : w38.cell? ⟨gk, 1, none⟩ = some (.int .i64 0) := (blk_cell hbox 1).trans rfl; have BKgk := Aside0.mk hbox; have GEgk := Aside0.mk (show w37.heap.size ≤ gk from by rw [hgk]; exact Nat.le_refl _); have hfzgk0 := blk_frozen hbox 0; have hfzgk1 := blk_frozen hbox 1; clear hb hbox hgk)
        go_upto_region 38 with (fail)
        obtain ⟨w39, hwk⟩ : ∃ x_ : World, x_ = ((w38.setCell ⟨gk, 0, none⟩ (.int .i64 ra)).setCell ⟨gk, 1, none⟩ (.int .i64 rb)) := ⟨_, rfl⟩
        rw [← hwk]
        have hbk : w39.heap[gk]? = some (.cells #[.int .i64 ra, .int .i64 rb] 37 (0, 0)) := by rw [hwk]; exact (blk_put (blk_put BKgk.out 0 _ rfl) 1 _ rfl)
        have HB39 := Aside0.mk (show Below w37.heap.size w37 w39 from by rw [hwk]; exact (below_set (below_set HB38.out GEgk.out) GEgk.out))
        have ggc0_39 := show w39.cell? _ = some _ from pw_cell_below HB39.out HCggc0_37.out
        clear ggc0_38
        have ggc1_39 := show w39.cell? _ = some _ from pw_cell_below HB39.out HCggc1_37.out
        clear ggc1_38
        have ghc0_39 := show w39.cell? _ = some _ from pw_cell_below HB39.out HCghc0_37.out
        clear ghc0_38
        have ghc1_39 := show w39.cell? _ = some _ from pw_cell_below HB39.out HCghc1_37.out
        clear ghc1_38
        have gic0_39 := show w39.cell? _ = some _ from pw_cell_below HB39.out HCgic0_37.out
        clear gic0_38
        have gic1_39 := show w39.cell? _ = some _ from pw_cell_below HB39.out HCgic1_37.out
        clear gic1_38
        have gjc0_39 := show w39.cell? _ = some _ from pw_cell_below HB39.out HCgjc0_37.out
        clear gjc0_38
        have gjc1_39 := show w39.cell? _ = some _ from pw_cell_below HB39.out HCgjc1_37.out
        clear gjc1_38
        have gkc0_39 : w39.cell? ⟨gk, 0, none⟩ = some (.int .i64 ra) := (blk_cell hbk 0).trans rfl
        have gkc1_39 : w39.cell? ⟨gk, 1, none⟩ = some (.int .i64 rb) := (blk_cell hbk 1).trans rfl
        clear hwk hbk gkc0 gkc1 hfzgk0 hfzgk1
        go_wp2_with fail
        (refine (spec_DrawWorstTraffic.calls B e m _ _ _ _ (Kd.C_below HB.out (by repeat (first | exact (lw_then (lw_then (lw_then (lw_then (lw_then (lw_then (lw_then (lw_then (lw_then (lw_then (lw_then (lw_then (lw_then (lw_then (lw_then (lw_then (lw_then (lw_then (lw_then (lw_then (lw_then (lw_then (lw_then (lw_then (lw_then (lw_then (lw_then (lw_then HB1.out HB3.out) HB4.out) HB5.out) HB6.out) HB7.out) HB8.out) HB9.out) HB10.out) HB11.out) HB14.out) HB15.out) HB16.out) HB17.out) HB18.out) HB19.out) HB20.out) HB22.out) HB23.out) HB25.out) HB26.out) HB27.out) HB30.out) HB31.out) HB33.out) HB34.out) HB36.out) HB37.out) HB39.out) | apply pw_below_drewN | apply below_drew | apply below_alloc))) HBL.out HD4.out).mono ?_)
        rintro e w40 ⟨rfl, hb⟩
        have HB40 := Aside0.mk (show Below w39.heap.size w39 w40 from lw_then (by repeat (first | exact (Below.refl _ _) | apply pw_below_drewN | apply below_drew | apply below_alloc)) hb)
        have ggc0_40 := pw_cell_below HB40.out ggc0_39
        clear ggc0_39
        have ggc1_40 := pw_cell_below HB40.out ggc1_39
        clear ggc1_39
        have ghc0_40 := pw_cell_below HB40.out ghc0_39
        clear ghc0_39
        have ghc1_40 := pw_cell_below HB40.out ghc1_39
        clear ghc1_39
        have gic0_40 := pw_cell_below HB40.out gic0_39
        clear gic0_39
        have gic1_40 := pw_cell_below HB40.out gic1_39
        clear gic1_39
        have gjc0_40 := pw_cell_below HB40.out gjc0_39
        clear gjc0_39
        have gjc1_40 := pw_cell_below HB40.out gjc1_39
        clear gjc1_39
        have gkc0_40 := pw_cell_below HB40.out gkc0_39
        clear gkc0_39
        have gkc1_40 := pw_cell_below HB40.out gkc1_39
        clear gkc1_39
        clear hb
        go_upto_region 39 with (have HCggc0_40 := Aside0.mk ggc0_40; have HCggc1_40 := Aside0.mk ggc1_40; have HCghc0_40 := Aside0.mk ghc0_40; have HCghc1_40 := Aside0.mk ghc1_40; have HCgic0_40 := Aside0.mk gic0_40; have HCgic1_40 := Aside0.mk gic1_40; have HCgjc0_40 := Aside0.mk gjc0_40; have HCgjc1_40 := Aside0.mk gjc1_40; have HCgkc0_40 := Aside0.mk gkc0_40; have HCgkc1_40 := Aside0.mk gkc1_40; (with_reducible refine gate_dst (N := 51) rfl ?_); refine box_event ?hg (N := 51) ?hd (cs := #[.int .i64 0, .int .i64 0]) (t := 67) ?hr ?_; (case hd => rfl); (case hg => rfl); (case hr => first | (go_simp; done) | (go_simp; rfl)); intro gl hgl w41 hbox hb; have HB41 := Aside0.mk (show Below w40.heap.size w40 w41 from lw_then (by repeat (first | exact (Below.refl _ _) | apply pw_below_drewN | apply below_drew | apply below_alloc)) hb); have ggc0_41 := pw_cell_below HB41.out ggc0_40; clear ggc0_40; have ggc1_41 := pw_cell_below HB41.out ggc1_40; clear ggc1_40; have ghc0_41 := pw_cell_below HB41.out ghc0_40; clear ghc0_40; have ghc1_41 := pw_cell_below HB41.out ghc1_40; clear ghc1_40; have gic0_41 := pw_cell_below HB41.out gic0_40; clear gic0_40; have gic1_41 := pw_cell_below HB41.out gic1_40; clear gic1_40; have gjc0_41 := pw_cell_below HB41.out gjc0_40; clear gjc0_40; have gjc1_41 := pw_cell_below HB41.out gjc1_40; clear gjc1_40; have gkc0_41 := pw_cell_below HB41.out gkc0_40; clear gkc0_40; have gkc1_41 := pw_cell_below HB41.out gkc1_40; clear gkc1_40; have glc0 : w41.cell? ⟨gl, 0, none⟩ = some (.int .i64 0) := (blk_cell hbox 0).trans rfl; have glc1 : w41.cell? ⟨gl, 1, none⟩ = some (.int .i64 0) := (blk_cell hbox 1).trans rfl; have BKgl := Aside0.mk hbox; have GEgl := Aside0.mk (show w40.heap.size ≤ gl from by rw [hgl]; exact Nat.le_refl _); have hfzgl0 := blk_frozen hbox 0; have hfzgl1 := blk_frozen hbox 1; clear hb hbox hgl)
        go_upto_region 39 with (fail)
        obtain ⟨w42, hwk⟩ : ∃ x_ : World, x_ = ((w41.setCell ⟨gl, 0, none⟩ (.int .i64 ca)).setCell ⟨gl, 1, none⟩ (.int .i64 cb)) := ⟨_, rfl⟩
        rw [← hwk]
        have hbk : w42.heap[gl]? = some (.cells #[.int .i64 ca, .int .i64 cb] 67 (0, 0)) := by rw [hwk]; exact (blk_put (blk_put BKgl.out 0 _ rfl) 1 _ rfl)
        have HB42 := Aside0.mk (show Below w40.heap.size w40 w42 from by rw [hwk]; exact (below_set (below_set HB41.out GEgl.out) GEgl.out))
        have ggc0_42 := show w42.cell? _ = some _ from pw_cell_below HB42.out HCggc0_40.out
        clear ggc0_41
        have ggc1_42 := show w42.cell? _ = some _ from pw_cell_below HB42.out HCggc1_40.out
        clear ggc1_41
        have ghc0_42 := show w42.cell? _ = some _ from pw_cell_below HB42.out HCghc0_40.out
        clear ghc0_41
        have ghc1_42 := show w42.cell? _ = some _ from pw_cell_below HB42.out HCghc1_40.out
        clear ghc1_41
        have gic0_42 := show w42.cell? _ = some _ from pw_cell_below HB42.out HCgic0_40.out
        clear gic0_41
        have gic1_42 := show w42.cell? _ = some _ from pw_cell_below HB42.out HCgic1_40.out
        clear gic1_41
        have gjc0_42 := show w42.cell? _ = some _ from pw_cell_below HB42.out HCgjc0_40.out
        clear gjc0_41
        have gjc1_42 := show w42.cell? _ = some _ from pw_cell_below HB42.out HCgjc1_40.out
        clear gjc1_41
        have gkc0_42 := show w42.cell? _ = some _ from pw_cell_below HB42.out HCgkc0_40.out
        clear gkc0_41
        have gkc1_42 := show w42.cell? _ = some _ from pw_cell_below HB42.out HCgkc1_40.out
        clear gkc1_41
        have glc0_42 : w42.cell? ⟨gl, 0, none⟩ = some (.int .i64 ca) := (blk_cell hbk 0).trans rfl
        have glc1_42 : w42.cell? ⟨gl, 1, none⟩ = some (.int .i64 cb) := (blk_cell hbk 1).trans rfl
        clear hwk hbk glc0 glc1 hfzgl0 hfzgl1
        go_wp2_with fail
        (refine (impl_WorstTraffic.calls kq ca cb n _ _ _ HW1.out).mono ?_)
        rintro e w43 ⟨v6, rfl, hr, hb⟩
        have HB43 := Aside0.mk (show Below w42.heap.size w42 w43 from lw_then (by repeat (first | exact (Below.refl _ _) | apply pw_below_drewN | apply below_drew | apply below_alloc)) hb)
        have ggc0_43 := pw_cell_below HB43.out ggc0_42
        clear ggc0_42
        have ggc1_43 := pw_cell_below HB43.out ggc1_42
        clear ggc1_42
        have ghc0_43 := pw_cell_below HB43.out ghc0_42
        clear ghc0_42
        have ghc1_43 := pw_cell_below HB43.out ghc1_42
        clear ghc1_42
        have gic0_43 := pw_cell_below HB43.out gic0_42
        clear gic0_42
        have gic1_43 := pw_cell_below HB43.out gic1_42
        clear gic1_42
        have gjc0_43 := pw_cell_below HB43.out gjc0_42
        clear gjc0_42
        have gjc1_43 := pw_cell_below HB43.out gjc1_42
        clear gjc1_42
        have gkc0_43 := pw_cell_below HB43.out gkc0_42
        clear gkc0_42
        have gkc1_43 := pw_cell_below HB43.out gkc1_42
        clear gkc1_42
        have glc0_43 := pw_cell_below HB43.out glc0_42
        clear glc0_42
        have glc1_43 := pw_cell_below HB43.out glc1_42
        clear glc1_42
        obtain ⟨Av6, cv6, rfl⟩ := Kd.R_slice hr
        have Hv6 := Aside0.mk (Kd.R_reads' hr)
        clear hr
        clear hb
        go_wp2_with fail
        (refine (spec_WorstTraffic.calls kq ca cb n _ _ _ HW2.out).mono ?_)
        rintro e w44 ⟨v7, rfl, hr, hb⟩
        have HB44 := Aside0.mk (show Below w43.heap.size w43 w44 from lw_then (by repeat (first | exact (Below.refl _ _) | apply pw_below_drewN | apply below_drew | apply below_alloc)) hb)
        have ggc0_44 := pw_cell_below HB44.out ggc0_43
        clear ggc0_43
        have ggc1_44 := pw_cell_below HB44.out ggc1_43
        clear ggc1_43
        have ghc0_44 := pw_cell_below HB44.out ghc0_43
        clear ghc0_43
        have ghc1_44 := pw_cell_below HB44.out ghc1_43
        clear ghc1_43
        have gic0_44 := pw_cell_below HB44.out gic0_43
        clear gic0_43
        have gic1_44 := pw_cell_below HB44.out gic1_43
        clear gic1_43
        have gjc0_44 := pw_cell_below HB44.out gjc0_43
        clear gjc0_43
        have gjc1_44 := pw_cell_below HB44.out gjc1_43
        clear gjc1_43
        have gkc0_44 := pw_cell_below HB44.out gkc0_43
        clear gkc0_43
        have gkc1_44 := pw_cell_below HB44.out gkc1_43
        clear gkc1_43
        have glc0_44 := pw_cell_below HB44.out glc0_43
        clear glc0_43
        have glc1_44 := pw_cell_below HB44.out glc1_43
        clear glc1_43
        obtain ⟨Av7, cv7, rfl⟩ := Kd.R_slice hr
        have Hv7 := Aside0.mk (Kd.R_reads' hr)
        clear hr
        clear hb
        go_wp2_with fail
        (refine (laws_kSame.calls kq Av6 cv6 WT Av7 cv7 WT true _ (Kd.C_below Hv6.out.2.2 (by repeat (first | exact HB44.out | apply pw_below_drewN | apply below_drew | apply below_alloc))) Hv6.out.2.1 (Kd.C_below Hv7.out.2.2 (by repeat (first | exact (Below.refl _ _) | apply pw_below_drewN | apply below_drew | apply below_alloc))) Hv7.out.2.1 HE2.out).mono ?_)
        rintro e w' ⟨rfl, ⟨nd3, rfl⟩⟩
        go_upto_if 394 with (fail)
        cases frt
        focus
          go_wp2_with fail
          go_ret
          exact ⟨rfl, (by repeat (first | exact (lw_then (lw_then (lw_then (lw_then (lw_then (lw_then (lw_then (lw_then (lw_then (lw_then (lw_then (lw_then (lw_then (lw_then (lw_then (lw_then (lw_then (lw_then (lw_then (lw_then (lw_then (lw_then (lw_then (lw_then (lw_then (lw_then (lw_then (lw_then (lw_then (lw_then (lw_then (lw_then HB1.out HB3.out) HB4.out) HB5.out) HB6.out) HB7.out) HB8.out) HB9.out) HB10.out) HB11.out) HB14.out) HB15.out) HB16.out) HB17.out) HB18.out) HB19.out) HB20.out) HB22.out) HB23.out) HB25.out) HB26.out) HB27.out) HB30.out) HB31.out) HB33.out) HB34.out) HB36.out) HB37.out) HB39.out) HB40.out) HB42.out) HB43.out) HB44.out) | apply pw_below_drewN | apply below_drew | apply below_alloc))⟩
        focus
          go_wp2_with fail
          (refine (impl_KeepsBucket.calls kq ca cb Av6 cv6 WT _ _ _ (Kd.C_below Hv6.out.2.2 (by repeat (first | exact HB44.out | apply pw_below_drewN | apply below_drew | apply below_alloc))) Hv6.out.2.1 (HC4.out (by trivial)).1).mono ?_)
          rintro e w45 ⟨rfl, hb⟩
          have HB45 := Aside0.mk (show Below w44.heap.size w44 w45 from lw_then (by repeat (first | exact (Below.refl _ _) | apply pw_below_drewN | apply below_drew | apply below_alloc)) hb)
          have ggc0_45 := pw_cell_below HB45.out ggc0_44
          clear ggc0_44
          have ggc1_45 := pw_cell_below HB45.out ggc1_44
          clear ggc1_44
          have ghc0_45 := pw_cell_below HB45.out ghc0_44
          clear ghc0_44
          have ghc1_45 := pw_cell_below HB45.out ghc1_44
          clear ghc1_44
          have gic0_45 := pw_cell_below HB45.out gic0_44
          clear gic0_44
          have gic1_45 := pw_cell_below HB45.out gic1_44
          clear gic1_44
          have gjc0_45 := pw_cell_below HB45.out gjc0_44
          clear gjc0_44
          have gjc1_45 := pw_cell_below HB45.out gjc1_44
          clear gjc1_44
          have gkc0_45 := pw_cell_below HB45.out gkc0_44
          clear gkc0_44
          have gkc1_45 := pw_cell_below HB45.out gkc1_44
          clear gkc1_44
          have glc0_45 := pw_cell_below HB45.out glc0_44
          clear glc0_44
          have glc1_45 := pw_cell_below HB45.out glc1_44
          clear glc1_44
          clear hb
          obtain rfl := (HC4.out (by trivial)).2
          go_wp2_with fail
          go_ret
          exact ⟨rfl, (by repeat (first | exact (lw_then (lw_then (lw_then (lw_then (lw_then (lw_then (lw_then (lw_then (lw_then (lw_then (lw_then (lw_then (lw_then (lw_then (lw_then (lw_then (lw_then (lw_then (lw_then (lw_then (lw_then (lw_then (lw_then (lw_then (lw_then (lw_then (lw_then (lw_then (lw_then (lw_then (lw_then (lw_then (lw_then HB1.out HB3.out) HB4.out) HB5.out) HB6.out) HB7.out) HB8.out) HB9.out) HB10.out) HB11.out) HB14.out) HB15.out) HB16.out) HB17.out) HB18.out) HB19.out) HB20.out) HB22.out) HB23.out) HB25.out) HB26.out) HB27.out) HB30.out) HB31.out) HB33.out) HB34.out) HB36.out) HB37.out) HB39.out) HB40.out) HB42.out) HB43.out) HB44.out) HB45.out) | apply pw_below_drewN | apply below_drew | apply below_alloc))⟩
end Go.Proofs.Ytoeddkfbhjmbmaa.PB
