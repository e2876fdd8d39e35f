/- The law on buckets that are kept comes to true: it is walked along its one way; no condition but the named facts. -/
import Derived.Deep.CutRange
import Derived.Deep.DeepCutAuto
import Derived.Test.YthecknnmfghilaaPure0
import Derived.Test.YthecknnmfghilaaLaw
import Derived.Test.YthecknnmfghilaaPA1
import Derived.Test.YthecknnmfghilaaPA17
import Derived.Test.YthecknnmfghilaaPA19
import Derived.Test.YthecknnmfghilaaPA2
import Derived.Test.YthecknnmfghilaaPA3
import Derived.Test.YthecknnmfghilaaPA7
import Derived.Test.YthecknnmfghilaaPA20
import Derived.Test.YthecknnmfghilaaPA22
import Derived.Test.YthecknnmfghilaaPA23
import Derived.Test.YthecknnmfghilaaPA5
import Derived.Test.YthecknnmfghilaaPA4
import Derived.Test.YthecknnmfghilaaPA24
import Derived.Test.YthecknnmfghilaaPA25
import Derived.Test.YthecknnmfghilaaPA27
import Derived.Test.YthecknnmfghilaaPA28
import Derived.Test.YthecknnmfghilaaPA29
import Derived.Test.YthecknnmfghilaaPA30
import Derived.Test.YthecknnmfghilaaPA31
import Derived.Test.YthecknnmfghilaaPA32
import Derived.Test.YthecknnmfghilaaPA33
namespace Go.Proofs.Ythecknnmfghilaa.PA
open Go.RowKit Go.Proofs.YthecknnmfghilaaW.PrintWords Go.Proofs.YthecknnmfghilaaW.PrintLast Go.Proofs.YthecknnmfghilaaW.PrintMore
set_option linter.unusedVariables false
set_option linter.unusedSimpArgs false
def law16.T16 : Bool × List (List Nat × List Nat) := (true, [([], []), ([], []), ([0, 1], [0, 1]), ([2], [2]), ([], []), ([3, 4], [3, 4]), ([5], [5]), ([6], [6]), ([6], [6]), ([7, 8, 6], [6, 7, 8]), ([9, 6], [6, 9]), ([6], [6]), ([11, 6], [6, 11]), ([10, 12, 6], [6, 10, 12]), ([6, 13], [6, 13]), ([14, 6], [14]), ([15], [15]), ([16, 15], [15, 16]), ([17, 15, 15], [15, 17]), ([18], [18]), ([18], [18]), ([19, 20, 18], [18, 19, 20]), ([21, 18], [18, 21]), ([18], [18]), ([18], [18]), ([24, 18], [18, 24]), ([23, 25, 18], [18, 23, 25]), ([26, 18], [18, 26]), ([18], [18]), ([18], [18]), ([29, 18], [18, 29]), ([28, 30, 18], [18, 28, 30]), ([31, 18], [18, 31]), ([27, 32, 18], [18, 27, 32]), ([18], [18]), ([34, 18], [18, 34]), ([33, 35, 18], [18, 33, 35]), ([22, 36, 18], [18, 22, 36]), ([18, 37, 15], [15, 18, 37]), ([15, 38], [15, 38])])
def law16.B16 : List Nat := [0, 0, 3, 7, 0, 31, 63, 127, 127, 511, 1023, 127, 2175, 8191, 16383, 32767, 65535, 131071, 262143, 524287, 524287, 2097151, 4194303, 524287, 524287, 17301503, 59244543, 126353407, 524287, 524287, 537395199, 1879572479, 4027056127, 8582070271, 524287, 17180393471, 68711612415, 137438953471, 274877906943, 549755813887]
theorem law16.tab16 : rtab .any (opsOf Try.f4 16) = law16.T16 := by kernel_rfl
theorem law16.bits16 : waitsOk law16.T16.2 law16.B16 = true := by kernel_rfl
def law20.T20 : Bool × List (List Nat × List Nat) := (true, [([], []), ([0], [0]), ([1], [1]), ([], []), ([3], [3]), ([4], [4]), ([2, 0, 1, 2], [2]), ([5, 6, 0, 1, 2, 3, 4, 5, 6], [5])])
def law20.B20 : List Nat := [0, 1, 3, 0, 8, 24, 7, 127]
theorem law20.tab20 : rtab .any (opsOf Try.f4 20) = law20.T20 := by kernel_rfl
theorem law20.bits20 : waitsOk law20.T20.2 law20.B20 = true := by kernel_rfl
def law21.T21 : Bool × List (List Nat × List Nat) := (true, [([], []), ([], []), ([], []), ([2], [2]), ([0, 1, 3], [0, 1, 3]), ([4], [4]), ([], []), ([6], [6]), ([], []), ([8], [8]), ([], []), ([], []), ([10, 11], [10, 11]), ([9, 12], [9, 12]), ([7, 13], [7, 13]), ([5, 14], [5, 14])])
def law21.B21 : List Nat := [0, 0, 0, 4, 15, 31, 0, 64, 0, 256, 0, 0, 3072, 7936, 16320, 32767]
theorem law21.tab21 : rtab .any (opsOf Try.f4 21) = law21.T21 := by kernel_rfl
theorem law21.bits21 : waitsOk law21.T21.2 law21.B21 = true := by kernel_rfl
def law23.T23 : Bool × List (List Nat × List Nat) := (true, [([], []), ([], []), ([], []), ([1, 2], [1, 2]), ([0, 3], [0, 3]), ([4], [4]), ([5], [5]), ([5], [5]), ([6, 4, 0, 1, 2, 3, 4, 5, 6], [6]), ([7, 8, 0, 1, 2, 3, 4, 5, 6, 7, 8], [7])])
def law23.B23 : List Nat := [0, 0, 0, 6, 15, 31, 63, 63, 127, 511]
theorem law23.tab23 : rtab .any (opsOf Try.f4 23) = law23.T23 := by kernel_rfl
theorem law23.bits23 : waitsOk law23.T23.2 law23.B23 = true := by kernel_rfl
set_option maxHeartbeats 8000000 in
set_option maxRecDepth 100000 in
theorem keeps_walk (A : Option Addr) (c : Nat) (l : List Int) (B : Option Addr) (e : Nat) (m : List Int) (W : World) (hA : Kd.C (Kd.int .u8) W A l.length l) (hAL : l.length ≤ c) (hB : Kd.C (Kd.int .u8) W B m.length m) (hBL : m.length ≤ e)
    (kq : Nat) (X LV FB Y Z V : List Int) (r d S U sm ra dep deep lst xa xb ya yb : Int) (ok one three ib it told six five eight nine both ka kb : Bool)
    (HBig_ : laws_big.f l m = some false)
    (HD1_ : spec_DrawLevelsOf.f kq l = some (r, d, X))
    (HI1_ : impl_LevelsOf.f kq r d X = some (LV, ok))
    (HS1_ : spec_LevelsOf.f kq r d X = some (LV, ok))
    (HI2_ : impl_KeepsBucket.f kq r d X = some (ok, one))
    (HS2_ : spec_KeepsBucket.f kq r d X = some (ok, one))
    (HI3_ : impl_FirstBreach.f kq r d X = some (FB, three))
    (HS3_ : spec_FirstBreach.f kq r d X = some (FB, three))
    (HE1_ : laws_kSame.f kq LV LV = some true)
    (HE2_ : laws_kSame.f kq FB FB = some true)
    (HIB_ : impl_IsBucket.f r d = some ib)
    (HIT_ : impl_IsTraffic.f X = some it)
    (HCase_ : (ok = false ∧ one = false ∧ three = false ∧ ib = false) ∨ (ok = false ∧ one = false ∧ three = false ∧ ib = true ∧ it = false) ∨ (ok = true ∧ one = true ∧ three = false ∧ ib = true ∧ it = true) ∨ (ok = false ∧ one = true ∧ three = true ∧ ib = true ∧ it = true))
    (HLv_ : ok = true → LV.length = X.length ∧ X.length ≤ 40 ∧ ∀ j : Nat, j < X.length → decide (rd LV j < rd X j) = false ∧ decide (rd LV j > d) = false ∧ (0 < j → decide (rd LV j > wrap64 (wrap64 (rd LV ((j - 1 : Nat) : Int) - rd X ((j - 1 : Nat) : Int)) + r)) = false))
    (HBr_ : three = true → 0 ≤ S ∧ S ≤ U ∧ U < X.length ∧ X.length ≤ 40 ∧ FB = [S, U] ∧ laws_kSum.f kq ((X.take (wrap64 (U + 1)).toNat).drop S.toNat) = some sm ∧ decide (sm ≤ wrap64 (d + wrap64 (r * wrap64 (U - S)))) = false ∧ impl_KeepsBucket.f kq r d (X.take U.toNat) = some (true, true))
    (HD2_ : spec_DrawLeastDepth.f kq m = some (ra, Y))
    (HI4_ : impl_LeastDepth.f kq ra Y = some (dep, told))
    (HS4_ : spec_LeastDepth.f kq ra Y = some (dep, told))
    (HT_ : told = true → impl_KeepsBucket.f kq ra dep Y = some (true, true) ∧ impl_KeepsBucket.f kq ra (wrap64 (dep - 1)) Y = some (false, six))
    (HD3_ : spec_DrawLeastRate.f kq m = some (deep, Z))
    (HI5_ : impl_LeastRate.f kq deep Z = some (lst, five))
    (HS5_ : spec_LeastRate.f kq deep Z = some (lst, five))
    (HF_ : five = true → impl_KeepsBucket.f kq lst deep Z = some (true, true) ∧ impl_KeepsBucket.f kq (wrap64 (lst - 1)) deep Z = some (false, eight))
    (HD4_ : spec_DrawKeepsBoth.f kq m = some (xa, xb, ya, yb, V))
    (HI6_ : impl_KeepsBoth.f kq xa xb ya yb V = some (both, nine))
    (HS6_ : spec_KeepsBoth.f kq xa xb ya yb V = some (both, nine))
    (HN_ : nine = true → impl_KeepsBucket.f kq xa xb V = some (ka, true) ∧ impl_KeepsBucket.f kq ya yb V = some (kb, true) ∧ both = (ka && kb))
    :
    Calls Try.prog 4 #[.slice A l.length c, .slice B m.length e] W fun e W' => e = .returned (.bool true) ∧ Below W.heap.size W W' := by
  have HA := Aside0.mk hA
  have HB := Aside0.mk hB
  have HAL := Aside0.mk hAL
  have HBL := Aside0.mk hBL
  have HBig := Aside0.mk HBig_
  have HD1 := Aside0.mk HD1_
  have HI1 := Aside0.mk HI1_
  have HS1 := Aside0.mk HS1_
  have HI2 := Aside0.mk HI2_
  have HS2 := Aside0.mk HS2_
  have HI3 := Aside0.mk HI3_
  have HS3 := Aside0.mk HS3_
  have HE1 := Aside0.mk HE1_
  have HE2 := Aside0.mk HE2_
  have HIB := Aside0.mk HIB_
  have HIT := Aside0.mk HIT_
  have HCase := Aside0.mk HCase_
  have HLv := Aside0.mk HLv_
  have HBr := Aside0.mk HBr_
  have HD2 := Aside0.mk HD2_
  have HI4 := Aside0.mk HI4_
  have HS4 := Aside0.mk HS4_
  have HT := Aside0.mk HT_
  have HD3 := Aside0.mk HD3_
  have HI5 := Aside0.mk HI5_
  have HS5 := Aside0.mk HS5_
  have HF := Aside0.mk HF_
  have HD4 := Aside0.mk HD4_
  have HI6 := Aside0.mk HI6_
  have HS6 := Aside0.mk HS6_
  have HN := Aside0.mk HN_
  clear hA hB hAL hBL HBig_ HD1_ HI1_ HS1_ HI2_ HS2_ HI3_ HS3_ HE1_ HE2_ HIB_ HIT_ HCase_ HLv_ HBr_ HD2_ HI4_ HS4_ HT_ HD3_ HI5_ HS5_ HF_ HD4_ HI6_ HS6_ HN_
  have hu25 := Try.underlying25
  go_enter Try.func4, Try.ntmps4
  go_wp2_with fail
  (refine (laws_big.calls A c l B e m false _ (Kd.C_below HA.out (by repeat (first | exact (Below.refl _ _) | apply pw_below_drewN | apply below_drew | apply below_alloc))) HAL.out (Kd.C_below HB.out (by repeat (first | exact (Below.refl _ _) | apply pw_below_drewN | apply below_drew | apply below_alloc))) HBL.out HBig.out).mono ?_)
  rintro e w' ⟨rfl, ⟨nd0, rfl⟩⟩
  go_wp2_with fail
  (refine (spec_DrawLevelsOf.calls kq A c l _ _ _ _ (Kd.C_below HA.out (by repeat (first | exact (Below.refl _ _) | apply pw_below_drewN | apply below_drew | apply below_alloc))) HAL.out HD1.out).mono ?_)
  rintro e w1 ⟨v1, rfl, hr, hb⟩
  have HB1 := Aside0.mk (show Below W.heap.size W w1 from lw_then (by repeat (first | exact (Below.refl _ _) | apply pw_below_drewN | apply below_drew | apply below_alloc)) hb)
  obtain ⟨Av1, cv1, rfl⟩ := Kd.R_slice hr
  have Hv1 := Aside0.mk (Kd.R_reads' hr)
  clear hr
  clear hb
  go_wp2_with ((with_reducible refine gate_dst (N := 5) rfl ?_); refine box_event ?hg (N := 5) ?hd (cs := #[.int .i64 0, .int .i64 0]) (t := 25) ?hr ?_; (case hd => rfl); (case hg => rfl); (case hr => first | (go_simp; done) | (go_simp; rfl)); intro ga hga w2 hbox hb; have HB2 := Aside0.mk (show Below w1.heap.size w1 w2 from lw_then (by repeat (first | exact (Below.refl _ _) | apply pw_below_drewN | apply below_drew | apply below_alloc)) hb); have gac0 : w2.cell? ⟨ga, 0, none⟩ = some (.int .i64 0) := (blk_cell hbox 0).trans rfl; have gac1 : w2.cell? ⟨ga, 1, none⟩ = some (.int .i64 0) := (blk_cell hbox 1).trans rfl; have BKga := Aside0.mk hbox; have GEga := Aside0.mk (show w1.heap.size ≤ ga from by rw [hga]; exact Nat.le_refl _); have hfzga0 := blk_frozen hbox 0; have hfzga1 := blk_frozen hbox 1; clear hb hbox hga)
  go_wp2_with fail
  obtain ⟨w3, hwk⟩ : ∃ x_ : World, x_ = ((w2.setCell ⟨ga, 0, none⟩ (.int .i64 r)).setCell ⟨ga, 1, none⟩ (.int .i64 d)) := ⟨_, rfl⟩
  rw [← hwk]
  have hbk : w3.heap[ga]? = some (.cells #[.int .i64 r, .int .i64 d] 25 (0, 0)) := by rw [hwk]; exact (blk_put (blk_put BKga.out 0 _ rfl) 1 _ rfl)
  have HB3 := Aside0.mk (show Below w1.heap.size w1 w3 from by rw [hwk]; exact (below_set (below_set HB2.out GEga.out) GEga.out))
  have gac0_3 : w3.cell? ⟨ga, 0, none⟩ = some (.int .i64 r) := (blk_cell hbk 0).trans rfl
  have gac1_3 : w3.cell? ⟨ga, 1, none⟩ = some (.int .i64 d) := (blk_cell hbk 1).trans rfl
  clear hwk hbk gac0 gac1 hfzga0 hfzga1
  (refine (impl_LevelsOf.calls kq r d Av1 cv1 X _ _ _ (Kd.C_below Hv1.out.2.2 (by repeat (first | exact HB3.out | apply pw_below_drewN | apply below_drew | apply below_alloc))) Hv1.out.2.1 HI1.out).mono ?_)
  rintro e w4 ⟨v2, rfl, hr, hb⟩
  have HB4 := Aside0.mk (show Below w3.heap.size w3 w4 from lw_then (by repeat (first | exact (Below.refl _ _) | apply pw_below_drewN | apply below_drew | apply below_alloc)) hb)
  have gac0_4 := pw_cell_below HB4.out gac0_3
  clear gac0_3
  have gac1_4 := pw_cell_below HB4.out gac1_3
  clear gac1_3
  obtain ⟨Av2, cv2, rfl⟩ := Kd.R_slice hr
  have Hv2 := Aside0.mk (Kd.R_reads' hr)
  clear hr
  clear hb
  go_wp2_with fail
  (refine (spec_LevelsOf.calls kq r d Av1 cv1 X _ _ _ (Kd.C_below Hv1.out.2.2 (by repeat (first | exact (lw_then HB3.out HB4.out) | apply pw_below_drewN | apply below_drew | apply below_alloc))) Hv1.out.2.1 HS1.out).mono ?_)
  rintro e w5 ⟨v3, rfl, hr, hb⟩
  have HB5 := Aside0.mk (show Below w4.heap.size w4 w5 from lw_then (by repeat (first | exact (Below.refl _ _) | apply pw_below_drewN | apply below_drew | apply below_alloc)) hb)
  have gac0_5 := pw_cell_below HB5.out gac0_4
  clear gac0_4
  have gac1_5 := pw_cell_below HB5.out gac1_4
  clear gac1_4
  obtain ⟨Av3, cv3, rfl⟩ := Kd.R_slice hr
  have Hv3 := Aside0.mk (Kd.R_reads' hr)
  clear hr
  clear hb
  go_wp2_with fail
  (refine (impl_KeepsBucket.calls kq r d Av1 cv1 X _ _ _ (Kd.C_below Hv1.out.2.2 (by repeat (first | exact (lw_then (lw_then HB3.out HB4.out) HB5.out) | apply pw_below_drewN | apply below_drew | apply below_alloc))) Hv1.out.2.1 HI2.out).mono ?_)
  rintro e w6 ⟨rfl, hb⟩
  have HB6 := Aside0.mk (show Below w5.heap.size w5 w6 from lw_then (by repeat (first | exact (Below.refl _ _) | apply pw_below_drewN | apply below_drew | apply below_alloc)) hb)
  have gac0_6 := pw_cell_below HB6.out gac0_5
  clear gac0_5
  have gac1_6 := pw_cell_below HB6.out gac1_5
  clear gac1_5
  clear hb
  go_wp2_with fail
  (refine (spec_KeepsBucket.calls kq r d Av1 cv1 X _ _ _ (Kd.C_below Hv1.out.2.2 (by repeat (first | exact (lw_then (lw_then (lw_then HB3.out HB4.out) HB5.out) HB6.out) | apply pw_below_drewN | apply below_drew | apply below_alloc))) Hv1.out.2.1 HS2.out).mono ?_)
  rintro e w7 ⟨rfl, hb⟩
  have HB7 := Aside0.mk (show Below w6.heap.size w6 w7 from lw_then (by repeat (first | exact (Below.refl _ _) | apply pw_below_drewN | apply below_drew | apply below_alloc)) hb)
  have gac0_7 := pw_cell_below HB7.out gac0_6
  clear gac0_6
  have gac1_7 := pw_cell_below HB7.out gac1_6
  clear gac1_6
  clear hb
  go_wp2_with fail
  (refine (impl_FirstBreach.calls kq r d Av1 cv1 X _ _ _ (Kd.C_below Hv1.out.2.2 (by repeat (first | exact (lw_then (lw_then (lw_then (lw_then HB3.out HB4.out) HB5.out) HB6.out) HB7.out) | apply pw_below_drewN | apply below_drew | apply below_alloc))) Hv1.out.2.1 HI3.out).mono ?_)
  rintro e w8 ⟨v4, rfl, hr, hb⟩
  have HB8 := Aside0.mk (show Below w7.heap.size w7 w8 from lw_then (by repeat (first | exact (Below.refl _ _) | apply pw_below_drewN | apply below_drew | apply below_alloc)) hb)
  have gac0_8 := pw_cell_below HB8.out gac0_7
  clear gac0_7
  have gac1_8 := pw_cell_below HB8.out gac1_7
  clear gac1_7
  obtain ⟨Av4, cv4, rfl⟩ := Kd.R_slice hr
  have Hv4 := Aside0.mk (Kd.R_reads' hr)
  clear hr
  clear hb
  go_wp2_with fail
  (refine (spec_FirstBreach.calls kq r d Av1 cv1 X _ _ _ (Kd.C_below Hv1.out.2.2 (by repeat (first | exact (lw_then (lw_then (lw_then (lw_then (lw_then HB3.out HB4.out) HB5.out) HB6.out) HB7.out) HB8.out) | apply pw_below_drewN | apply below_drew | apply below_alloc))) Hv1.out.2.1 HS3.out).mono ?_)
  rintro e w9 ⟨v5, rfl, hr, hb⟩
  have HB9 := Aside0.mk (show Below w8.heap.size w8 w9 from lw_then (by repeat (first | exact (Below.refl _ _) | apply pw_below_drewN | apply below_drew | apply below_alloc)) hb)
  have gac0_9 := pw_cell_below HB9.out gac0_8
  clear gac0_8
  have gac1_9 := pw_cell_below HB9.out gac1_8
  clear gac1_8
  obtain ⟨Av5, cv5, rfl⟩ := Kd.R_slice hr
  have Hv5 := Aside0.mk (Kd.R_reads' hr)
  clear hr
  clear hb
  go_upto_region 10 with (fail)
  go_cut [156] from 57 to 155 (fun v156 wx => v156 = .bool false ∧ Below w9.heap.size w9 wx)
  case first =>
    rcases HCase.out with ⟨rfl, rfl, rfl, rfl⟩ | ⟨rfl, rfl, rfl, rfl, rfl⟩ | ⟨rfl, rfl, rfl, rfl, rfl⟩ | ⟨rfl, rfl, rfl, rfl, rfl⟩
    focus
      go_wp2_with fail
      (refine (laws_kSame.calls kq Av2 cv2 LV Av3 cv3 LV true _ (Kd.C_below Hv2.out.2.2 (by repeat (first | exact (lw_then (lw_then (lw_then (lw_then HB5.out HB6.out) HB7.out) HB8.out) HB9.out) | apply pw_below_drewN | apply below_drew | apply below_alloc))) Hv2.out.2.1 (Kd.C_below Hv3.out.2.2 (by repeat (first | exact (lw_then (lw_then (lw_then HB6.out HB7.out) HB8.out) HB9.out) | apply pw_below_drewN | apply below_drew | apply below_alloc))) Hv3.out.2.1 HE1.out).mono ?_)
      rintro e w' ⟨rfl, ⟨nd1, rfl⟩⟩
      go_wp2_with fail
      (refine (laws_kSame.calls kq Av4 cv4 FB Av5 cv5 FB true _ (Kd.C_below Hv4.out.2.2 (by repeat (first | exact HB9.out | apply pw_below_drewN | apply below_drew | apply below_alloc))) Hv4.out.2.1 (Kd.C_below Hv5.out.2.2 (by repeat (first | exact (Below.refl _ _) | apply pw_below_drewN | apply below_drew | apply below_alloc))) Hv5.out.2.1 HE2.out).mono ?_)
      rintro e w' ⟨rfl, ⟨nd2, rfl⟩⟩
      go_wp2_with fail
      (refine (impl_IsBucket.calls r d _ _ HIB.out).mono ?_)
      rintro e w10 ⟨rfl, hb⟩
      have HB10 := Aside0.mk (show Below w9.heap.size w9 w10 from lw_then (by repeat (first | exact (Below.refl _ _) | apply pw_below_drewN | apply below_drew | apply below_alloc)) hb)
      have gac0_10 := pw_cell_below HB10.out gac0_9
      clear gac0_9
      have gac1_10 := pw_cell_below HB10.out gac1_9
      clear gac1_9
      clear hb
      go_wp2_with fail
      go_meet
      case rel => exact ⟨rfl, (by repeat (first | exact HB10.out | apply pw_below_drewN | apply below_drew | apply below_alloc))⟩
    focus
      go_wp2_with fail
      (refine (laws_kSame.calls kq Av2 cv2 LV Av3 cv3 LV true _ (Kd.C_below Hv2.out.2.2 (by repeat (first | exact (lw_then (lw_then (lw_then (lw_then HB5.out HB6.out) HB7.out) HB8.out) HB9.out) | apply pw_below_drewN | apply below_drew | apply below_alloc))) Hv2.out.2.1 (Kd.C_below Hv3.out.2.2 (by repeat (first | exact (lw_then (lw_then (lw_then HB6.out HB7.out) HB8.out) HB9.out) | apply pw_below_drewN | apply below_drew | apply below_alloc))) Hv3.out.2.1 HE1.out).mono ?_)
      rintro e w' ⟨rfl, ⟨nd3, rfl⟩⟩
      go_wp2_with fail
      (refine (laws_kSame.calls kq Av4 cv4 FB Av5 cv5 FB true _ (Kd.C_below Hv4.out.2.2 (by repeat (first | exact HB9.out | apply pw_below_drewN | apply below_drew | apply below_alloc))) Hv4.out.2.1 (Kd.C_below Hv5.out.2.2 (by repeat (first | exact (Below.refl _ _) | apply pw_below_drewN | apply below_drew | apply below_alloc))) Hv5.out.2.1 HE2.out).mono ?_)
      rintro e w' ⟨rfl, ⟨nd4, rfl⟩⟩
      go_wp2_with fail
      (refine (impl_IsBucket.calls r d _ _ HIB.out).mono ?_)
      rintro e w10 ⟨rfl, hb⟩
      have HB10 := Aside0.mk (show Below w9.heap.size w9 w10 from lw_then (by repeat (first | exact (Below.refl _ _) | apply pw_below_drewN | apply below_drew | apply below_alloc)) hb)
      have gac0_10 := pw_cell_below HB10.out gac0_9
      clear gac0_9
      have gac1_10 := pw_cell_below HB10.out gac1_9
      clear gac1_9
      clear hb
      go_wp2_with fail
      (refine (impl_IsTraffic.calls Av1 cv1 X _ _ (Kd.C_below Hv1.out.2.2 (by repeat (first | exact (lw_then (lw_then (lw_then (lw_then (lw_then (lw_then (lw_then HB3.out HB4.out) HB5.out) HB6.out) HB7.out) HB8.out) HB9.out) HB10.out) | apply pw_below_drewN | apply below_drew | apply below_alloc))) Hv1.out.2.1 HIT.out).mono ?_)
      rintro e w11 ⟨rfl, hb⟩
      have HB11 := Aside0.mk (show Below w10.heap.size w10 w11 from lw_then (by repeat (first | exact (Below.refl _ _) | apply pw_below_drewN | apply below_drew | apply below_alloc)) hb)
      have gac0_11 := pw_cell_below HB11.out gac0_10
      clear gac0_10
      have gac1_11 := pw_cell_below HB11.out gac1_10
      clear gac1_10
      clear hb
      go_wp2_with fail
      go_meet
      case rel => exact ⟨rfl, (by repeat (first | exact (lw_then HB10.out HB11.out) | apply pw_below_drewN | apply below_drew | apply below_alloc))⟩
    focus
      go_wp2_with fail
      (refine (laws_kSame.calls kq Av2 cv2 LV Av3 cv3 LV true _ (Kd.C_below Hv2.out.2.2 (by repeat (first | exact (lw_then (lw_then (lw_then (lw_then HB5.out HB6.out) HB7.out) HB8.out) HB9.out) | apply pw_below_drewN | apply below_drew | apply below_alloc))) Hv2.out.2.1 (Kd.C_below Hv3.out.2.2 (by repeat (first | exact (lw_then (lw_then (lw_then HB6.out HB7.out) HB8.out) HB9.out) | apply pw_below_drewN | apply below_drew | apply below_alloc))) Hv3.out.2.1 HE1.out).mono ?_)
      rintro e w' ⟨rfl, ⟨nd5, rfl⟩⟩
      go_wp2_with fail
      (refine (laws_kSame.calls kq Av4 cv4 FB Av5 cv5 FB true _ (Kd.C_below Hv4.out.2.2 (by repeat (first | exact HB9.out | apply pw_below_drewN | apply below_drew | apply below_alloc))) Hv4.out.2.1 (Kd.C_below Hv5.out.2.2 (by repeat (first | exact (Below.refl _ _) | apply pw_below_drewN | apply below_drew | apply below_alloc))) Hv5.out.2.1 HE2.out).mono ?_)
      rintro e w' ⟨rfl, ⟨nd6, rfl⟩⟩
      go_wp2_with fail
      (refine (impl_IsBucket.calls r d _ _ HIB.out).mono ?_)
      rintro e w10 ⟨rfl, hb⟩
      have HB10 := Aside0.mk (show Below w9.heap.size w9 w10 from lw_then (by repeat (first | exact (Below.refl _ _) | apply pw_below_drewN | apply below_drew | apply below_alloc)) hb)
      have gac0_10 := pw_cell_below HB10.out gac0_9
      clear gac0_9
      have gac1_10 := pw_cell_below HB10.out gac1_9
      clear gac1_9
      clear hb
      go_wp2_with fail
      (refine (impl_IsTraffic.calls Av1 cv1 X _ _ (Kd.C_below Hv1.out.2.2 (by repeat (first | exact (lw_then (lw_then (lw_then (lw_then (lw_then (lw_then (lw_then HB3.out HB4.out) HB5.out) HB6.out) HB7.out) HB8.out) HB9.out) HB10.out) | apply pw_below_drewN | apply below_drew | apply below_alloc))) Hv1.out.2.1 HIT.out).mono ?_)
      rintro e w11 ⟨rfl, hb⟩
      have HB11 := Aside0.mk (show Below w10.heap.size w10 w11 from lw_then (by repeat (first | exact (Below.refl _ _) | apply pw_below_drewN | apply below_drew | apply below_alloc)) hb)
      have gac0_11 := pw_cell_below HB11.out gac0_10
      clear gac0_10
      have gac1_11 := pw_cell_below HB11.out gac1_10
      clear gac1_10
      clear hb
      go_wp2_with fail
      go_meet
      case rel => exact ⟨rfl, (by repeat (first | exact (lw_then HB10.out HB11.out) | apply pw_below_drewN | apply below_drew | apply below_alloc))⟩
    focus
      go_wp2_with fail
      (refine (laws_kSame.calls kq Av2 cv2 LV Av3 cv3 LV true _ (Kd.C_below Hv2.out.2.2 (by repeat (first | exact (lw_then (lw_then (lw_then (lw_then HB5.out HB6.out) HB7.out) HB8.out) HB9.out) | apply pw_below_drewN | apply below_drew | apply below_alloc))) Hv2.out.2.1 (Kd.C_below Hv3.out.2.2 (by repeat (first | exact (lw_then (lw_then (lw_then HB6.out HB7.out) HB8.out) HB9.out) | apply pw_below_drewN | apply below_drew | apply below_alloc))) Hv3.out.2.1 HE1.out).mono ?_)
      rintro e w' ⟨rfl, ⟨nd7, rfl⟩⟩
      go_wp2_with fail
      (refine (laws_kSame.calls kq Av4 cv4 FB Av5 cv5 FB true _ (Kd.C_below Hv4.out.2.2 (by repeat (first | exact HB9.out | apply pw_below_drewN | apply below_drew | apply below_alloc))) Hv4.out.2.1 (Kd.C_below Hv5.out.2.2 (by repeat (first | exact (Below.refl _ _) | apply pw_below_drewN | apply below_drew | apply below_alloc))) Hv5.out.2.1 HE2.out).mono ?_)
      rintro e w' ⟨rfl, ⟨nd8, rfl⟩⟩
      go_wp2_with fail
      (refine (impl_IsBucket.calls r d _ _ HIB.out).mono ?_)
      rintro e w10 ⟨rfl, hb⟩
      have HB10 := Aside0.mk (show Below w9.heap.size w9 w10 from lw_then (by repeat (first | exact (Below.refl _ _) | apply pw_below_drewN | apply below_drew | apply below_alloc)) hb)
      have gac0_10 := pw_cell_below HB10.out gac0_9
      clear gac0_9
      have gac1_10 := pw_cell_below HB10.out gac1_9
      clear gac1_9
      clear hb
      go_wp2_with fail
      (refine (impl_IsTraffic.calls Av1 cv1 X _ _ (Kd.C_below Hv1.out.2.2 (by repeat (first | exact (lw_then (lw_then (lw_then (lw_then (lw_then (lw_then (lw_then HB3.out HB4.out) HB5.out) HB6.out) HB7.out) HB8.out) HB9.out) HB10.out) | apply pw_below_drewN | apply below_drew | apply below_alloc))) Hv1.out.2.1 HIT.out).mono ?_)
      rintro e w11 ⟨rfl, hb⟩
      have HB11 := Aside0.mk (show Below w10.heap.size w10 w11 from lw_then (by repeat (first | exact (Below.refl _ _) | apply pw_below_drewN | apply below_drew | apply below_alloc)) hb)
      have gac0_11 := pw_cell_below HB11.out gac0_10
      clear gac0_10
      have gac1_11 := pw_cell_below HB11.out gac1_10
      clear gac1_10
      clear hb
      go_wp2_with fail
      go_meet
      case rel => exact ⟨rfl, (by repeat (first | exact (lw_then HB10.out HB11.out) | apply pw_below_drewN | apply below_drew | apply below_alloc))⟩
  case rest =>
    obtain ⟨rfl, hcut⟩ := hcut
    generalize wc = w10 at hcut ⊢
    have HB10 := Aside0.mk (show Below w9.heap.size w9 w10 from hcut)
    clear hcut
    have gac0_10 := pw_cell_below HB10.out gac0_9
    clear gac0_9
    have gac1_10 := pw_cell_below HB10.out gac1_9
    clear gac1_9
    go_upto_if 157 with (fail)
    go_cut [] from 158 to 205 (fun  wx => Below w10.heap.size w10 wx)
    case first =>
      cases ok
      focus
        go_wp2_with fail
        go_meet
        case rel => exact (by repeat (first | exact (Below.refl _ _) | apply pw_below_drewN | apply below_drew | apply below_alloc))
      focus
        obtain ⟨hl1, hl2, hl3⟩ := HLv.out (by trivial)
        have HLl := Aside0.mk hl1
        have HXl := Aside0.mk hl2
        have HLf := Aside0.mk hl3
        clear hl1 hl2 hl3
        go_wp2_with fail
        go_loopg [160] (X.length) (fun kr v160 w' => ∃ j : Nat, v160 = .int .i64 j ∧ Aside0 (j + kr = X.length) ∧ Aside0 (Below w10.heap.size w10 w'))
        case atStart => exact ⟨0, rfl, ⟨by omega⟩, ⟨by repeat (first | exact Below.refl _ _ | apply pw_below_drewN | apply below_drew)⟩⟩
        case round =>
          obtain ⟨j, rfl, HJ, HW⟩ := hrel
          cases gk with
          | zero =>
            have hd : decide (j < X.length) = false := decide_eq_false (by have := HJ.out; omega)
            go_wp2_with fail
            go_meet
            case rel => exact (by repeat (first | exact HW.out | apply pw_below_drewN | apply below_drew | apply below_alloc))
          | succ k1 =>
            have hj : j < X.length := by have := HJ.out; omega
            have hd : decide (j < X.length) = true := decide_eq_true hj
            have hjl : j < LV.length := by rw [HLl.out]; exact hj
            have hdl : decide (j < LV.length) = true := decide_eq_true hjl
            have hj40 : j < 40 := by have := HXl.out; omega
            obtain ⟨ax, eX, hx0⟩ := Kd.at_int Hv1.out.2.2 (j : Int) (by omega) (by omega)
            obtain ⟨al, eL, hl0⟩ := Kd.at_int Hv2.out.2.2 (j : Int) (by omega) (by omega)
            subst eX
            subst eL
            rw [Int.toNat_natCast] at hx0 hl0
            obtain ⟨f1, f2, f3⟩ := HLf.out j hj
            have hcx := pw_cell_below (lw_then (lw_then (lw_then (lw_then (lw_then (lw_then (lw_then (lw_then HB3.out HB4.out) HB5.out) HB6.out) HB7.out) HB8.out) HB9.out) HB10.out) HW.out) hx0
            have hcl := pw_cell_below (lw_then (lw_then (lw_then (lw_then (lw_then (lw_then HB5.out HB6.out) HB7.out) HB8.out) HB9.out) HB10.out) HW.out) hl0
            have hr0 := pw_cell_below HW.out gac0_10
            have hd0 := pw_cell_below HW.out gac1_10
            clear hx0 hl0
            have hwj : wrap64 ((j : Int) + 1) = (j : Int) + 1 := w64 (by omega) (by omega)
            by_cases h0 : 0 < j
            · have f3 := f3 h0
              have g0 : decide ((j : Int) > 0) = true := decide_eq_true (by omega)
              have g1 : decide (0 < j) = true := decide_eq_true h0
              obtain ⟨i, hi⟩ : ∃ i : Nat, i = j - 1 := ⟨_, rfl⟩
              rw [← hi] at f3
              have hwi : wrap64 ((j : Int) - 1) = (i : Int) := by rw [w64 (by omega) (by omega)]; omega
              have hi1 : i < X.length := by omega
              have hi2 : i < LV.length := by omega
              have hd1 : decide (i < X.length) = true := decide_eq_true hi1
              have hd2 : decide (i < LV.length) = true := decide_eq_true hi2
              obtain ⟨ay, eX, hx1⟩ := Kd.at_int Hv1.out.2.2 (i : Int) (by omega) (by omega)
              obtain ⟨am, eL, hl1⟩ := Kd.at_int Hv2.out.2.2 (i : Int) (by omega) (by omega)
              cases eX
              cases eL
              rw [Int.toNat_natCast] at hx1 hl1
              have hcy := pw_cell_below (lw_then (lw_then (lw_then (lw_then (lw_then (lw_then (lw_then (lw_then HB3.out HB4.out) HB5.out) HB6.out) HB7.out) HB8.out) HB9.out) HB10.out) HW.out) hx1
              have hcm := pw_cell_below (lw_then (lw_then (lw_then (lw_then (lw_then (lw_then HB5.out HB6.out) HB7.out) HB8.out) HB9.out) HB10.out) HW.out) hl1
              clear hx1 hl1 hi h0
              go_wp2_with fail
              refine start_ (n := 40) (S := fun w' => w'.cell? (al.add j) = some (.int .i64 (rd LV (j : Int))) ∧ w'.cell? ⟨ga, 1, none⟩ = some (.int .i64 d) ∧ w'.cell? ⟨ga, 0, none⟩ = some (.int .i64 r) ∧ w'.cell? (al.add i) = some (.int .i64 (rd LV (i : Int))) ∧ w'.cell? (ax.add i) = some (.int .i64 (rd X (i : Int)))) (ds := []) #[false, false, false, false, false, false, false, false, false, false, false, false, false, false, false, false, false, false, false, false, false, false, false, false, false, false, false, false, false, false, false, false, false, false, false, false, false, false, false, false] (by kernel_rfl) rfl rfl ⟨pw_cell_below (by repeat (first | exact Below.refl _ _ | apply pw_below_drewN | apply below_drew)) hcl, pw_cell_below (by repeat (first | exact Below.refl _ _ | apply pw_below_drewN | apply below_drew)) hd0, pw_cell_below (by repeat (first | exact Below.refl _ _ | apply pw_below_drewN | apply below_drew)) hr0, pw_cell_below (by repeat (first | exact Below.refl _ _ | apply pw_below_drewN | apply below_drew)) hcm, pw_cell_below (by repeat (first | exact Below.refl _ _ | apply pw_below_drewN | apply below_drew)) hcy⟩ (fun hHeld => ?_)
              refine with_tabW law16.tab16 law16.bits16 (fun HT_ HW_ => ?_)
              refine pure_ (i := 0) (N := some 165) (v := ?_) (a' := ?_) #[true, false, false, false, false, false, false, false, false, false, false, false, false, false, false, false, false, false, false, false, false, false, false, false, false, false, false, false, false, false, false, false, false, false, false, false, false, false, false, false] rfl rfl (any_of HT_.out (by kernel_rfl)) (fun _ _ _ h => h) (Or.inl ⟨by rfl, ?_⟩) ?_ ?_
              rotate_left
              · intro w'
                go_simp
                with_reducible rfl
              rotate_left
              · simp only [Act.put, List.setIfInBounds_toArray, List.set_cons_zero, List.set_cons_succ, i64_w, i32_w]
                rfl
              refine pure_ (i := 1) (N := some 166) (v := ?_) (a' := ?_) #[true, true, false, false, false, false, false, false, false, false, false, false, false, false, false, false, false, false, false, false, false, false, false, false, false, false, false, false, false, false, false, false, false, false, false, false, false, false, false, false] rfl rfl (any_of HT_.out (by kernel_rfl)) (fun _ _ _ h => h) (Or.inl ⟨by rfl, ?_⟩) ?_ ?_
              rotate_left
              · intro w'
                go_simp
                with_reducible rfl
              rotate_left
              · simp only [Act.put, List.setIfInBounds_toArray, List.set_cons_zero, List.set_cons_succ, i64_w, i32_w]
                rfl
              refine pure_ (i := 2) (N := some 167) (v := ?_) (a' := ?_) #[true, true, true, false, false, false, false, false, false, false, false, false, false, false, false, false, false, false, false, false, false, false, false, false, false, false, false, false, false, false, false, false, false, false, false, false, false, false, false, false] rfl rfl (any_of HT_.out (by kernel_rfl)) (fun _ _ _ h => h) (Or.inl ⟨by rfl, ?_⟩) ?_ ?_
              rotate_left
              · intro w'
                go_simp
                with_reducible rfl
              rotate_left
              · simp only [Act.put, List.setIfInBounds_toArray, List.set_cons_zero, List.set_cons_succ, i64_w, i32_w]
                rfl
              refine pure_ (i := 4) (N := some 169) (v := ?_) (a' := ?_) #[true, true, true, false, true, false, false, false, false, false, false, false, false, false, false, false, false, false, false, false, false, false, false, false, false, false, false, false, false, false, false, false, false, false, false, false, false, false, false, false] rfl rfl (any_of HT_.out (by kernel_rfl)) (fun _ _ _ h => h) (Or.inl ⟨by rfl, ?_⟩) ?_ ?_
              rotate_left
              · intro w'
                go_simp
                with_reducible rfl
              rotate_left
              · simp only [Act.put, List.setIfInBounds_toArray, List.set_cons_zero, List.set_cons_succ, i64_w, i32_w]
                rfl
              refine take_ (i := 3) (N := some 168) (v := ?_) (a' := ?_) #[true, true, true, true, true, false, false, false, false, false, false, false, false, false, false, false, false, false, false, false, false, false, false, false, false, false, false, false, false, false, false, false, false, false, false, false, false, false, false, false] rfl rfl (take_ofW HT_.out HW_.out (by kernel_rfl)) (fun _ _ _ h => h) (Or.inl ⟨by rfl, ?_⟩) hHeld ?_ ?_
              rotate_left
              · rintro w' ⟨s0, s1, s2, s3, s4⟩
                go_simp
                with_reducible rfl
              rotate_left
              · simp only [Act.put, List.setIfInBounds_toArray, List.set_cons_zero, List.set_cons_succ, i64_w, i32_w]
                rfl
              refine pure_ (i := 5) (N := some 170) (v := ?_) (a' := ?_) #[true, true, true, true, true, true, false, false, false, false, false, false, false, false, false, false, false, false, false, false, false, false, false, false, false, false, false, false, false, false, false, false, false, false, false, false, false, false, false, false] rfl rfl (any_of HT_.out (by kernel_rfl)) (fun _ _ _ h => h) (Or.inl ⟨by rfl, ?_⟩) ?_ ?_
              rotate_left
              · intro w'
                go_simp
                with_reducible rfl
              rotate_left
              · simp only [Act.put, List.setIfInBounds_toArray, List.set_cons_zero, List.set_cons_succ, i64_w, i32_w]
                rfl
              refine pure_ (i := 6) (N := some 171) (v := ?_) (a' := ?_) #[true, true, true, true, true, true, true, false, false, false, false, false, false, false, false, false, false, false, false, false, false, false, false, false, false, false, false, false, false, false, false, false, false, false, false, false, false, false, false, false] rfl rfl (any_of HT_.out (by kernel_rfl)) (fun _ _ _ h => h) (Or.inl ⟨by rfl, ?_⟩) ?_ ?_
              rotate_left
              · intro w'
                go_simp
                with_reducible rfl
              rotate_left
              · simp only [Act.put, List.setIfInBounds_toArray, List.set_cons_zero, List.set_cons_succ, i64_w, i32_w]
                rfl
              refine pure_ (i := 7) (N := some 172) (v := ?_) (a' := ?_) #[true, true, true, true, true, true, true, true, false, false, false, false, false, false, false, false, false, false, false, false, false, false, false, false, false, false, false, false, false, false, false, false, false, false, false, false, false, false, false, false] rfl rfl (any_of HT_.out (by kernel_rfl)) (fun _ _ _ h => h) (Or.inl ⟨by rfl, ?_⟩) ?_ ?_
              rotate_left
              · intro w'
                go_simp
                with_reducible rfl
              rotate_left
              · simp only [Act.put, List.setIfInBounds_toArray, List.set_cons_zero, List.set_cons_succ, i64_w, i32_w]
                rfl
              refine pure_ (i := 8) (N := some 173) (v := ?_) (a' := ?_) #[true, true, true, true, true, true, true, true, true, false, false, false, false, false, false, false, false, false, false, false, false, false, false, false, false, false, false, false, false, false, false, false, false, false, false, false, false, false, false, false] rfl rfl (any_of HT_.out (by kernel_rfl)) (fun _ _ _ h => h) (Or.inl ⟨by rfl, ?_⟩) ?_ ?_
              rotate_left
              · intro w'
                go_simp
                with_reducible rfl
              rotate_left
              · simp only [Act.put, List.setIfInBounds_toArray, List.set_cons_zero, List.set_cons_succ, i64_w, i32_w]
                rfl
              refine pure_ (i := 9) (N := some 174) (v := ?_) (a' := ?_) #[true, true, true, true, true, true, true, true, true, true, false, false, false, false, false, false, false, false, false, false, false, false, false, false, false, false, false, false, false, false, false, false, false, false, false, false, false, false, false, false] rfl rfl (any_of HT_.out (by kernel_rfl)) (fun _ _ _ h => h) (Or.inl ⟨by rfl, ?_⟩) ?_ ?_
              rotate_left
              · intro w'
                go_simp
                with_reducible rfl
              rotate_left
              · simp only [Act.put, List.setIfInBounds_toArray, List.set_cons_zero, List.set_cons_succ, i64_w, i32_w]
                rfl
              refine pure_ (i := 11) (N := some 176) (v := ?_) (a' := ?_) #[true, true, true, true, true, true, true, true, true, true, false, true, false, false, false, false, false, false, false, false, false, false, false, false, false, false, false, false, false, false, false, false, false, false, false, false, false, false, false, false] rfl rfl (any_of HT_.out (by kernel_rfl)) (fun _ _ _ h => h) (Or.inl ⟨by rfl, ?_⟩) ?_ ?_
              rotate_left
              · intro w'
                go_simp
                with_reducible rfl
              rotate_left
              · simp only [Act.put, List.setIfInBounds_toArray, List.set_cons_zero, List.set_cons_succ, i64_w, i32_w]
                rfl
              refine take_ (i := 10) (N := some 175) (v := ?_) (a' := ?_) #[true, true, true, true, true, true, true, true, true, true, true, true, false, false, false, false, false, false, false, false, false, false, false, false, false, false, false, false, false, false, false, false, false, false, false, false, false, false, false, false] rfl rfl (take_ofW HT_.out HW_.out (by kernel_rfl)) (fun _ _ _ h => h) (Or.inl ⟨by rfl, ?_⟩) hHeld ?_ ?_
              rotate_left
              · rintro w' ⟨s0, s1, s2, s3, s4⟩
                go_simp
                with_reducible rfl
              rotate_left
              · simp only [Act.put, List.setIfInBounds_toArray, List.set_cons_zero, List.set_cons_succ, i64_w, i32_w]
                rfl
              refine take_ (i := 12) (N := some 177) (v := ?_) (a' := ?_) #[true, true, true, true, true, true, true, true, true, true, true, true, true, false, false, false, false, false, false, false, false, false, false, false, false, false, false, false, false, false, false, false, false, false, false, false, false, false, false, false] rfl rfl (take_ofW HT_.out HW_.out (by kernel_rfl)) (fun _ _ _ h => h) (Or.inl ⟨by rfl, ?_⟩) hHeld ?_ ?_
              rotate_left
              · rintro w' ⟨s0, s1, s2, s3, s4⟩
                go_simp
                with_reducible rfl
              rotate_left
              · simp only [Act.put, List.setIfInBounds_toArray, List.set_cons_zero, List.set_cons_succ, i64_w, i32_w]
                rfl
              refine pure_ (i := 13) (N := some 178) (v := ?_) (a' := ?_) #[true, true, true, true, true, true, true, true, true, true, true, true, true, true, false, false, false, false, false, false, false, false, false, false, false, false, false, false, false, false, false, false, false, false, false, false, false, false, false, false] rfl rfl (any_of HT_.out (by kernel_rfl)) (fun _ _ _ h => h) (Or.inl ⟨by rfl, ?_⟩) ?_ ?_
              rotate_left
              · intro w'
                go_simp
                with_reducible rfl
              rotate_left
              · simp only [Act.put, List.setIfInBounds_toArray, List.set_cons_zero, List.set_cons_succ, i64_w, i32_w]
                rfl
              refine pure_ (i := 14) (N := some 179) (v := ?_) (a' := ?_) #[true, true, true, true, true, true, true, true, true, true, true, true, true, true, true, false, false, false, false, false, false, false, false, false, false, false, false, false, false, false, false, false, false, false, false, false, false, false, false, false] rfl rfl (any_of HT_.out (by kernel_rfl)) (fun _ _ _ h => h) (Or.inl ⟨by rfl, ?_⟩) ?_ ?_
              rotate_left
              · intro w'
                go_simp
                with_reducible rfl
              rotate_left
              · simp only [Act.put, List.setIfInBounds_toArray, List.set_cons_zero, List.set_cons_succ, i64_w, i32_w]
                rfl
              refine pure_ (i := 15) (N := some 180) (v := ?_) (a' := ?_) #[true, true, true, true, true, true, true, true, true, true, true, true, true, true, true, true, false, false, false, false, false, false, false, false, false, false, false, false, false, false, false, false, false, false, false, false, false, false, false, false] rfl rfl (any_of HT_.out (by kernel_rfl)) (fun _ _ _ h => h) (Or.inl ⟨by rfl, ?_⟩) ?_ ?_
              rotate_left
              · intro w'
                go_simp
                with_reducible rfl
              rotate_left
              · simp only [Act.put, List.setIfInBounds_toArray, List.set_cons_zero, List.set_cons_succ, i64_w, i32_w]
                rfl
              refine pure_ (i := 16) (N := some 181) (v := ?_) (a' := ?_) #[true, true, true, true, true, true, true, true, true, true, true, true, true, true, true, true, true, false, false, false, false, false, false, false, false, false, false, false, false, false, false, false, false, false, false, false, false, false, false, false] rfl rfl (any_of HT_.out (by kernel_rfl)) (fun _ _ _ h => h) (Or.inl ⟨by rfl, ?_⟩) ?_ ?_
              rotate_left
              · intro w'
                go_simp
                with_reducible rfl
              rotate_left
              · simp only [Act.put, List.setIfInBounds_toArray, List.set_cons_zero, List.set_cons_succ, i64_w, i32_w]
                rfl
              refine pure_ (i := 17) (N := some 182) (v := ?_) (a' := ?_) #[true, true, true, true, true, true, true, true, true, true, true, true, true, true, true, true, true, true, false, false, false, false, false, false, false, false, false, false, false, false, false, false, false, false, false, false, false, false, false, false] rfl rfl (any_of HT_.out (by kernel_rfl)) (fun _ _ _ h => h) (Or.inl ⟨by rfl, ?_⟩) ?_ ?_
              rotate_left
              · intro w'
                go_simp
                with_reducible rfl
              rotate_left
              · simp only [Act.put, List.setIfInBounds_toArray, List.set_cons_zero, List.set_cons_succ, i64_w, i32_w]
                rfl
              refine pure_ (i := 18) (N := some 183) (v := ?_) (a' := ?_) #[true, true, true, true, true, true, true, true, true, true, true, true, true, true, true, true, true, true, true, false, false, false, false, false, false, false, false, false, false, false, false, false, false, false, false, false, false, false, false, false] rfl rfl (any_of HT_.out (by kernel_rfl)) (fun _ _ _ h => h) (Or.inl ⟨by rfl, ?_⟩) ?_ ?_
              rotate_left
              · intro w'
                go_simp
                with_reducible rfl
              rotate_left
              · simp only [Act.put, List.setIfInBounds_toArray, List.set_cons_zero, List.set_cons_succ, i64_w, i32_w]
                rfl
              refine pure_ (i := 19) (N := some 184) (v := ?_) (a' := ?_) #[true, true, true, true, true, true, true, true, true, true, true, true, true, true, true, true, true, true, true, true, false, false, false, false, false, false, false, false, false, false, false, false, false, false, false, false, false, false, false, false] rfl rfl (any_of HT_.out (by kernel_rfl)) (fun _ _ _ h => h) (Or.inl ⟨by rfl, ?_⟩) ?_ ?_
              rotate_left
              · intro w'
                go_simp
                with_reducible rfl
              rotate_left
              · simp only [Act.put, List.setIfInBounds_toArray, List.set_cons_zero, List.set_cons_succ, i64_w, i32_w]
                rfl
              refine pure_ (i := 20) (N := some 185) (v := ?_) (a' := ?_) #[true, true, true, true, true, true, true, true, true, true, true, true, true, true, true, true, true, true, true, true, true, false, false, false, false, false, false, false, false, false, false, false, false, false, false, false, false, false, false, false] rfl rfl (any_of HT_.out (by kernel_rfl)) (fun _ _ _ h => h) (Or.inl ⟨by rfl, ?_⟩) ?_ ?_
              rotate_left
              · intro w'
                go_simp
                with_reducible rfl
              rotate_left
              · simp only [Act.put, List.setIfInBounds_toArray, List.set_cons_zero, List.set_cons_succ, i64_w, i32_w]
                rfl
              refine pure_ (i := 21) (N := some 186) (v := ?_) (a' := ?_) #[true, true, true, true, true, true, true, true, true, true, true, true, true, true, true, true, true, true, true, true, true, true, false, false, false, false, false, false, false, false, false, false, false, false, false, false, false, false, false, false] rfl rfl (any_of HT_.out (by kernel_rfl)) (fun _ _ _ h => h) (Or.inl ⟨by rfl, ?_⟩) ?_ ?_
              rotate_left
              · intro w'
                go_simp
                with_reducible rfl
              rotate_left
              · simp only [Act.put, List.setIfInBounds_toArray, List.set_cons_zero, List.set_cons_succ, i64_w, i32_w]
                rfl
              refine pure_ (i := 23) (N := some 188) (v := ?_) (a' := ?_) #[true, true, true, true, true, true, true, true, true, true, true, true, true, true, true, true, true, true, true, true, true, true, false, true, false, false, false, false, false, false, false, false, false, false, false, false, false, false, false, false] rfl rfl (any_of HT_.out (by kernel_rfl)) (fun _ _ _ h => h) (Or.inl ⟨by rfl, ?_⟩) ?_ ?_
              rotate_left
              · intro w'
                go_simp
                with_reducible rfl
              rotate_left
              · simp only [Act.put, List.setIfInBounds_toArray, List.set_cons_zero, List.set_cons_succ, i64_w, i32_w]
                rfl
              refine pure_ (i := 24) (N := some 189) (v := ?_) (a' := ?_) #[true, true, true, true, true, true, true, true, true, true, true, true, true, true, true, true, true, true, true, true, true, true, false, true, true, false, false, false, false, false, false, false, false, false, false, false, false, false, false, false] rfl rfl (any_of HT_.out (by kernel_rfl)) (fun _ _ _ h => h) (Or.inl ⟨by rfl, ?_⟩) ?_ ?_
              rotate_left
              · intro w'
                go_simp
                with_reducible rfl
              rotate_left
              · simp only [Act.put, List.setIfInBounds_toArray, List.set_cons_zero, List.set_cons_succ, i64_w, i32_w]
                rfl
              refine pure_ (i := 25) (N := some 190) (v := ?_) (a' := ?_) #[true, true, true, true, true, true, true, true, true, true, true, true, true, true, true, true, true, true, true, true, true, true, false, true, true, true, false, false, false, false, false, false, false, false, false, false, false, false, false, false] rfl rfl (any_of HT_.out (by kernel_rfl)) (fun _ _ _ h => h) (Or.inl ⟨by rfl, ?_⟩) ?_ ?_
              rotate_left
              · intro w'
                go_simp
                with_reducible rfl
              rotate_left
              · simp only [Act.put, List.setIfInBounds_toArray, List.set_cons_zero, List.set_cons_succ, i64_w, i32_w]
                rfl
              refine pure_ (i := 26) (N := some 191) (v := ?_) (a' := ?_) #[true, true, true, true, true, true, true, true, true, true, true, true, true, true, true, true, true, true, true, true, true, true, false, true, true, true, true, false, false, false, false, false, false, false, false, false, false, false, false, false] rfl rfl (any_of HT_.out (by kernel_rfl)) (fun _ _ _ h => h) (Or.inl ⟨by rfl, ?_⟩) ?_ ?_
              rotate_left
              · intro w'
                go_simp
                with_reducible rfl
              rotate_left
              · simp only [Act.put, List.setIfInBounds_toArray, List.set_cons_zero, List.set_cons_succ, i64_w, i32_w]
                rfl
              refine pure_ (i := 28) (N := some 193) (v := ?_) (a' := ?_) #[true, true, true, true, true, true, true, true, true, true, true, true, true, true, true, true, true, true, true, true, true, true, false, true, true, true, true, false, true, false, false, false, false, false, false, false, false, false, false, false] rfl rfl (any_of HT_.out (by kernel_rfl)) (fun _ _ _ h => h) (Or.inl ⟨by rfl, ?_⟩) ?_ ?_
              rotate_left
              · intro w'
                go_simp
                with_reducible rfl
              rotate_left
              · simp only [Act.put, List.setIfInBounds_toArray, List.set_cons_zero, List.set_cons_succ, i64_w, i32_w]
                rfl
              refine pure_ (i := 29) (N := some 194) (v := ?_) (a' := ?_) #[true, true, true, true, true, true, true, true, true, true, true, true, true, true, true, true, true, true, true, true, true, true, false, true, true, true, true, false, true, true, false, false, false, false, false, false, false, false, false, false] rfl rfl (any_of HT_.out (by kernel_rfl)) (fun _ _ _ h => h) (Or.inl ⟨by rfl, ?_⟩) ?_ ?_
              rotate_left
              · intro w'
                go_simp
                with_reducible rfl
              rotate_left
              · simp only [Act.put, List.setIfInBounds_toArray, List.set_cons_zero, List.set_cons_succ, i64_w, i32_w]
                rfl
              refine pure_ (i := 30) (N := some 195) (v := ?_) (a' := ?_) #[true, true, true, true, true, true, true, true, true, true, true, true, true, true, true, true, true, true, true, true, true, true, false, true, true, true, true, false, true, true, true, false, false, false, false, false, false, false, false, false] rfl rfl (any_of HT_.out (by kernel_rfl)) (fun _ _ _ h => h) (Or.inl ⟨by rfl, ?_⟩) ?_ ?_
              rotate_left
              · intro w'
                go_simp
                with_reducible rfl
              rotate_left
              · simp only [Act.put, List.setIfInBounds_toArray, List.set_cons_zero, List.set_cons_succ, i64_w, i32_w]
                rfl
              refine pure_ (i := 31) (N := some 196) (v := ?_) (a' := ?_) #[true, true, true, true, true, true, true, true, true, true, true, true, true, true, true, true, true, true, true, true, true, true, false, true, true, true, true, false, true, true, true, true, false, false, false, false, false, false, false, false] rfl rfl (any_of HT_.out (by kernel_rfl)) (fun _ _ _ h => h) (Or.inl ⟨by rfl, ?_⟩) ?_ ?_
              rotate_left
              · intro w'
                go_simp
                with_reducible rfl
              rotate_left
              · simp only [Act.put, List.setIfInBounds_toArray, List.set_cons_zero, List.set_cons_succ, i64_w, i32_w]
                rfl
              refine pure_ (i := 34) (N := some 199) (v := ?_) (a' := ?_) #[true, true, true, true, true, true, true, true, true, true, true, true, true, true, true, true, true, true, true, true, true, true, false, true, true, true, true, false, true, true, true, true, false, false, true, false, false, false, false, false] rfl rfl (any_of HT_.out (by kernel_rfl)) (fun _ _ _ h => h) (Or.inl ⟨by rfl, ?_⟩) ?_ ?_
              rotate_left
              · intro w'
                go_simp
                with_reducible rfl
              rotate_left
              · simp only [Act.put, List.setIfInBounds_toArray, List.set_cons_zero, List.set_cons_succ, i64_w, i32_w]
                rfl
              refine take_ (i := 22) (N := some 187) (v := ?_) (a' := ?_) #[true, true, true, true, true, true, true, true, true, true, true, true, true, true, true, true, true, true, true, true, true, true, true, true, true, true, true, false, true, true, true, true, false, false, true, false, false, false, false, false] rfl rfl (take_ofW HT_.out HW_.out (by kernel_rfl)) (fun _ _ _ h => h) (Or.inl ⟨by rfl, ?_⟩) hHeld ?_ ?_
              rotate_left
              · rintro w' ⟨s0, s1, s2, s3, s4⟩
                go_simp
                with_reducible rfl
              rotate_left
              · simp only [Act.put, List.setIfInBounds_toArray, List.set_cons_zero, List.set_cons_succ, i64_w, i32_w]
                rfl
              refine take_ (i := 27) (N := some 192) (v := ?_) (a' := ?_) #[true, true, true, true, true, true, true, true, true, true, true, true, true, true, true, true, true, true, true, true, true, true, true, true, true, true, true, true, true, true, true, true, false, false, true, false, false, false, false, false] rfl rfl (take_ofW HT_.out HW_.out (by kernel_rfl)) (fun _ _ _ h => h) (Or.inl ⟨by rfl, ?_⟩) hHeld ?_ ?_
              rotate_left
              · rintro w' ⟨s0, s1, s2, s3, s4⟩
                go_simp
                with_reducible rfl
              rotate_left
              · simp only [Act.put, List.setIfInBounds_toArray, List.set_cons_zero, List.set_cons_succ, i64_w, i32_w]
                rfl
              refine take_ (i := 32) (N := some 197) (v := ?_) (a' := ?_) #[true, true, true, true, true, true, true, true, true, true, true, true, true, true, true, true, true, true, true, true, true, true, true, true, true, true, true, true, true, true, true, true, true, false, true, false, false, false, false, false] rfl rfl (take_ofW HT_.out HW_.out (by kernel_rfl)) (fun _ _ _ h => h) (Or.inl ⟨by rfl, ?_⟩) hHeld ?_ ?_
              rotate_left
              · rintro w' ⟨s0, s1, s2, s3, s4⟩
                go_simp
                with_reducible rfl
              rotate_left
              · simp only [Act.put, List.setIfInBounds_toArray, List.set_cons_zero, List.set_cons_succ, i64_w, i32_w]
                rfl
              refine pure_ (i := 33) (N := some 198) (v := ?_) (a' := ?_) #[true, true, true, true, true, true, true, true, true, true, true, true, true, true, true, true, true, true, true, true, true, true, true, true, true, true, true, true, true, true, true, true, true, true, true, false, false, false, false, false] rfl rfl (any_of HT_.out (by kernel_rfl)) (fun _ _ _ h => h) (Or.inl ⟨by rfl, ?_⟩) ?_ ?_
              rotate_left
              · intro w'
                go_simp
                with_reducible rfl
              rotate_left
              · simp only [Act.put, List.setIfInBounds_toArray, List.set_cons_zero, List.set_cons_succ, i64_w, i32_w]
                rfl
              refine take_ (i := 35) (N := some 200) (v := ?_) (a' := ?_) #[true, true, true, true, true, true, true, true, true, true, true, true, true, true, true, true, true, true, true, true, true, true, true, true, true, true, true, true, true, true, true, true, true, true, true, true, false, false, false, false] rfl rfl (take_ofW HT_.out HW_.out (by kernel_rfl)) (fun _ _ _ h => h) (Or.inl ⟨by rfl, ?_⟩) hHeld ?_ ?_
              rotate_left
              · rintro w' ⟨s0, s1, s2, s3, s4⟩
                go_simp
                with_reducible rfl
              rotate_left
              · simp only [Act.put, List.setIfInBounds_toArray, List.set_cons_zero, List.set_cons_succ, i64_w, i32_w]
                rfl
              refine pure_ (i := 36) (N := some 201) (v := ?_) (a' := ?_) #[true, true, true, true, true, true, true, true, true, true, true, true, true, true, true, true, true, true, true, true, true, true, true, true, true, true, true, true, true, true, true, true, true, true, true, true, true, false, false, false] rfl rfl (any_of HT_.out (by kernel_rfl)) (fun _ _ _ h => h) (Or.inl ⟨by rfl, ?_⟩) ?_ ?_
              rotate_left
              · intro w'
                go_simp
                with_reducible rfl
              rotate_left
              · simp only [Act.put, List.setIfInBounds_toArray, List.set_cons_zero, List.set_cons_succ, i64_w, i32_w]
                rfl
              refine pure_ (i := 37) (N := some 202) (v := ?_) (a' := ?_) #[true, true, true, true, true, true, true, true, true, true, true, true, true, true, true, true, true, true, true, true, true, true, true, true, true, true, true, true, true, true, true, true, true, true, true, true, true, true, false, false] rfl rfl (any_of HT_.out (by kernel_rfl)) (fun _ _ _ h => h) (Or.inl ⟨by rfl, ?_⟩) ?_ ?_
              rotate_left
              · intro w'
                go_simp
                with_reducible rfl
              rotate_left
              · simp only [Act.put, List.setIfInBounds_toArray, List.set_cons_zero, List.set_cons_succ, i64_w, i32_w]
                rfl
              refine pure_ (i := 38) (N := some 203) (v := ?_) (a' := ?_) #[true, true, true, true, true, true, true, true, true, true, true, true, true, true, true, true, true, true, true, true, true, true, true, true, true, true, true, true, true, true, true, true, true, true, true, true, true, true, true, false] rfl rfl (any_of HT_.out (by kernel_rfl)) (fun _ _ _ h => h) (Or.inl ⟨by rfl, ?_⟩) ?_ ?_
              rotate_left
              · intro w'
                go_simp
                with_reducible rfl
              rotate_left
              · simp only [Act.put, List.setIfInBounds_toArray, List.set_cons_zero, List.set_cons_succ, i64_w, i32_w]
                rfl
              refine pure_ (i := 39) (N := some 204) (v := ?_) (a' := ?_) #[true, true, true, true, true, true, true, true, true, true, true, true, true, true, true, true, true, true, true, true, true, true, true, true, true, true, true, true, true, true, true, true, true, true, true, true, true, true, true, true] rfl rfl (any_of HT_.out (by kernel_rfl)) (fun _ _ _ h => h) (Or.inl ⟨by rfl, ?_⟩) ?_ ?_
              rotate_left
              · intro w'
                go_simp
                with_reducible rfl
              rotate_left
              · simp only [Act.put, List.setIfInBounds_toArray, List.set_cons_zero, List.set_cons_succ, i64_w, i32_w]
                rfl
              refine done_ (done_of HT_.out (by kernel_rfl)) ?_
              clear hHeld
              go_wp2_with fail
              go_roundg k1
              case measure => have := HJ.out; omega
              case rel => exact ⟨j + 1, by go_num, ⟨by have := HJ.out; omega⟩, ⟨by repeat (first | exact HW.out | apply pw_below_drewN | apply below_drew)⟩⟩
            · have g0 : decide ((j : Int) > 0) = false := decide_eq_false (by omega)
              have g1 : decide (0 < j) = false := decide_eq_false h0
              clear h0 f3
              go_wp2_with fail
              refine start_ (n := 40) (S := fun w' => w'.cell? (al.add j) = some (.int .i64 (rd LV (j : Int))) ∧ w'.cell? ⟨ga, 1, none⟩ = some (.int .i64 d)) (ds := []) #[false, false, false, false, false, false, false, false, false, false, false, false, false, false, false, false, false, false, false, false, false, false, false, false, false, false, false, false, false, false, false, false, false, false, false, false, false, false, false, false] (by kernel_rfl) rfl rfl ⟨pw_cell_below (by repeat (first | exact Below.refl _ _ | apply pw_below_drewN | apply below_drew)) hcl, pw_cell_below (by repeat (first | exact Below.refl _ _ | apply pw_below_drewN | apply below_drew)) hd0⟩ (fun hHeld => ?_)
              refine with_tabW law16.tab16 law16.bits16 (fun HT_ HW_ => ?_)
              refine pure_ (i := 0) (N := some 165) (v := ?_) (a' := ?_) #[true, false, false, false, false, false, false, false, false, false, false, false, false, false, false, false, false, false, false, false, false, false, false, false, false, false, false, false, false, false, false, false, false, false, false, false, false, false, false, false] rfl rfl (any_of HT_.out (by kernel_rfl)) (fun _ _ _ h => h) (Or.inl ⟨by rfl, ?_⟩) ?_ ?_
              rotate_left
              · intro w'
                go_simp
                with_reducible rfl
              rotate_left
              · simp only [Act.put, List.setIfInBounds_toArray, List.set_cons_zero, List.set_cons_succ, i64_w, i32_w]
                rfl
              refine pure_ (i := 1) (N := some 166) (v := ?_) (a' := ?_) #[true, true, false, false, false, false, false, false, false, false, false, false, false, false, false, false, false, false, false, false, false, false, false, false, false, false, false, false, false, false, false, false, false, false, false, false, false, false, false, false] rfl rfl (any_of HT_.out (by kernel_rfl)) (fun _ _ _ h => h) (Or.inl ⟨by rfl, ?_⟩) ?_ ?_
              rotate_left
              · intro w'
                go_simp
                with_reducible rfl
              rotate_left
              · simp only [Act.put, List.setIfInBounds_toArray, List.set_cons_zero, List.set_cons_succ, i64_w, i32_w]
                rfl
              refine pure_ (i := 2) (N := some 167) (v := ?_) (a' := ?_) #[true, true, true, false, false, false, false, false, false, false, false, false, false, false, false, false, false, false, false, false, false, false, false, false, false, false, false, false, false, false, false, false, false, false, false, false, false, false, false, false] rfl rfl (any_of HT_.out (by kernel_rfl)) (fun _ _ _ h => h) (Or.inl ⟨by rfl, ?_⟩) ?_ ?_
              rotate_left
              · intro w'
                go_simp
                with_reducible rfl
              rotate_left
              · simp only [Act.put, List.setIfInBounds_toArray, List.set_cons_zero, List.set_cons_succ, i64_w, i32_w]
                rfl
              refine pure_ (i := 4) (N := some 169) (v := ?_) (a' := ?_) #[true, true, true, false, true, false, false, false, false, false, false, false, false, false, false, false, false, false, false, false, false, false, false, false, false, false, false, false, false, false, false, false, false, false, false, false, false, false, false, false] rfl rfl (any_of HT_.out (by kernel_rfl)) (fun _ _ _ h => h) (Or.inl ⟨by rfl, ?_⟩) ?_ ?_
              rotate_left
              · intro w'
                go_simp
                with_reducible rfl
              rotate_left
              · simp only [Act.put, List.setIfInBounds_toArray, List.set_cons_zero, List.set_cons_succ, i64_w, i32_w]
                rfl
              refine take_ (i := 3) (N := some 168) (v := ?_) (a' := ?_) #[true, true, true, true, true, false, false, false, false, false, false, false, false, false, false, false, false, false, false, false, false, false, false, false, false, false, false, false, false, false, false, false, false, false, false, false, false, false, false, false] rfl rfl (take_ofW HT_.out HW_.out (by kernel_rfl)) (fun _ _ _ h => h) (Or.inl ⟨by rfl, ?_⟩) hHeld ?_ ?_
              rotate_left
              · rintro w' ⟨s0, s1⟩
                go_simp
                with_reducible rfl
              rotate_left
              · simp only [Act.put, List.setIfInBounds_toArray, List.set_cons_zero, List.set_cons_succ, i64_w, i32_w]
                rfl
              refine pure_ (i := 5) (N := some 170) (v := ?_) (a' := ?_) #[true, true, true, true, true, true, false, false, false, false, false, false, false, false, false, false, false, false, false, false, false, false, false, false, false, false, false, false, false, false, false, false, false, false, false, false, false, false, false, false] rfl rfl (any_of HT_.out (by kernel_rfl)) (fun _ _ _ h => h) (Or.inl ⟨by rfl, ?_⟩) ?_ ?_
              rotate_left
              · intro w'
                go_simp
                with_reducible rfl
              rotate_left
              · simp only [Act.put, List.setIfInBounds_toArray, List.set_cons_zero, List.set_cons_succ, i64_w, i32_w]
                rfl
              refine pure_ (i := 6) (N := some 171) (v := ?_) (a' := ?_) #[true, true, true, true, true, true, true, false, false, false, false, false, false, false, false, false, false, false, false, false, false, false, false, false, false, false, false, false, false, false, false, false, false, false, false, false, false, false, false, false] rfl rfl (any_of HT_.out (by kernel_rfl)) (fun _ _ _ h => h) (Or.inl ⟨by rfl, ?_⟩) ?_ ?_
              rotate_left
              · intro w'
                go_simp
                with_reducible rfl
              rotate_left
              · simp only [Act.put, List.setIfInBounds_toArray, List.set_cons_zero, List.set_cons_succ, i64_w, i32_w]
                rfl
              refine pure_ (i := 7) (N := some 172) (v := ?_) (a' := ?_) #[true, true, true, true, true, true, true, true, false, false, false, false, false, false, false, false, false, false, false, false, false, false, false, false, false, false, false, false, false, false, false, false, false, false, false, false, false, false, false, false] rfl rfl (any_of HT_.out (by kernel_rfl)) (fun _ _ _ h => h) (Or.inl ⟨by rfl, ?_⟩) ?_ ?_
              rotate_left
              · intro w'
                go_simp
                with_reducible rfl
              rotate_left
              · simp only [Act.put, List.setIfInBounds_toArray, List.set_cons_zero, List.set_cons_succ, i64_w, i32_w]
                rfl
              refine pure_ (i := 8) (N := some 173) (v := ?_) (a' := ?_) #[true, true, true, true, true, true, true, true, true, false, false, false, false, false, false, false, false, false, false, false, false, false, false, false, false, false, false, false, false, false, false, false, false, false, false, false, false, false, false, false] rfl rfl (any_of HT_.out (by kernel_rfl)) (fun _ _ _ h => h) (Or.inl ⟨by rfl, ?_⟩) ?_ ?_
              rotate_left
              · intro w'
                go_simp
                with_reducible rfl
              rotate_left
              · simp only [Act.put, List.setIfInBounds_toArray, List.set_cons_zero, List.set_cons_succ, i64_w, i32_w]
                rfl
              refine pure_ (i := 9) (N := some 174) (v := ?_) (a' := ?_) #[true, true, true, true, true, true, true, true, true, true, false, false, false, false, false, false, false, false, false, false, false, false, false, false, false, false, false, false, false, false, false, false, false, false, false, false, false, false, false, false] rfl rfl (any_of HT_.out (by kernel_rfl)) (fun _ _ _ h => h) (Or.inl ⟨by rfl, ?_⟩) ?_ ?_
              rotate_left
              · intro w'
                go_simp
                with_reducible rfl
              rotate_left
              · simp only [Act.put, List.setIfInBounds_toArray, List.set_cons_zero, List.set_cons_succ, i64_w, i32_w]
                rfl
              refine pure_ (i := 11) (N := some 176) (v := ?_) (a' := ?_) #[true, true, true, true, true, true, true, true, true, true, false, true, false, false, false, false, false, false, false, false, false, false, false, false, false, false, false, false, false, false, false, false, false, false, false, false, false, false, false, false] rfl rfl (any_of HT_.out (by kernel_rfl)) (fun _ _ _ h => h) (Or.inl ⟨by rfl, ?_⟩) ?_ ?_
              rotate_left
              · intro w'
                go_simp
                with_reducible rfl
              rotate_left
              · simp only [Act.put, List.setIfInBounds_toArray, List.set_cons_zero, List.set_cons_succ, i64_w, i32_w]
                rfl
              refine take_ (i := 10) (N := some 175) (v := ?_) (a' := ?_) #[true, true, true, true, true, true, true, true, true, true, true, true, false, false, false, false, false, false, false, false, false, false, false, false, false, false, false, false, false, false, false, false, false, false, false, false, false, false, false, false] rfl rfl (take_ofW HT_.out HW_.out (by kernel_rfl)) (fun _ _ _ h => h) (Or.inl ⟨by rfl, ?_⟩) hHeld ?_ ?_
              rotate_left
              · rintro w' ⟨s0, s1⟩
                go_simp
                with_reducible rfl
              rotate_left
              · simp only [Act.put, List.setIfInBounds_toArray, List.set_cons_zero, List.set_cons_succ, i64_w, i32_w]
                rfl
              refine take_ (i := 12) (N := some 177) (v := ?_) (a' := ?_) #[true, true, true, true, true, true, true, true, true, true, true, true, true, false, false, false, false, false, false, false, false, false, false, false, false, false, false, false, false, false, false, false, false, false, false, false, false, false, false, false] rfl rfl (take_ofW HT_.out HW_.out (by kernel_rfl)) (fun _ _ _ h => h) (Or.inl ⟨by rfl, ?_⟩) hHeld ?_ ?_
              rotate_left
              · rintro w' ⟨s0, s1⟩
                go_simp
                with_reducible rfl
              rotate_left
              · simp only [Act.put, List.setIfInBounds_toArray, List.set_cons_zero, List.set_cons_succ, i64_w, i32_w]
                rfl
              refine pure_ (i := 13) (N := some 178) (v := ?_) (a' := ?_) #[true, true, true, true, true, true, true, true, true, true, true, true, true, true, false, false, false, false, false, false, false, false, false, false, false, false, false, false, false, false, false, false, false, false, false, false, false, false, false, false] rfl rfl (any_of HT_.out (by kernel_rfl)) (fun _ _ _ h => h) (Or.inl ⟨by rfl, ?_⟩) ?_ ?_
              rotate_left
              · intro w'
                go_simp
                with_reducible rfl
              rotate_left
              · simp only [Act.put, List.setIfInBounds_toArray, List.set_cons_zero, List.set_cons_succ, i64_w, i32_w]
                rfl
              refine pure_ (i := 14) (N := some 179) (v := ?_) (a' := ?_) #[true, true, true, true, true, true, true, true, true, true, true, true, true, true, true, false, false, false, false, false, false, false, false, false, false, false, false, false, false, false, false, false, false, false, false, false, false, false, false, false] rfl rfl (any_of HT_.out (by kernel_rfl)) (fun _ _ _ h => h) (Or.inl ⟨by rfl, ?_⟩) ?_ ?_
              rotate_left
              · intro w'
                go_simp
                with_reducible rfl
              rotate_left
              · simp only [Act.put, List.setIfInBounds_toArray, List.set_cons_zero, List.set_cons_succ, i64_w, i32_w]
                rfl
              refine pure_ (i := 15) (N := some 180) (v := ?_) (a' := ?_) #[true, true, true, true, true, true, true, true, true, true, true, true, true, true, true, true, false, false, false, false, false, false, false, false, false, false, false, false, false, false, false, false, false, false, false, false, false, false, false, false] rfl rfl (any_of HT_.out (by kernel_rfl)) (fun _ _ _ h => h) (Or.inl ⟨by rfl, ?_⟩) ?_ ?_
              rotate_left
              · intro w'
                go_simp
                with_reducible rfl
              rotate_left
              · simp only [Act.put, List.setIfInBounds_toArray, List.set_cons_zero, List.set_cons_succ, i64_w, i32_w]
                rfl
              refine pure_ (i := 16) (N := some 181) (v := ?_) (a' := ?_) #[true, true, true, true, true, true, true, true, true, true, true, true, true, true, true, true, true, false, false, false, false, false, false, false, false, false, false, false, false, false, false, false, false, false, false, false, false, false, false, false] rfl rfl (any_of HT_.out (by kernel_rfl)) (fun _ _ _ h => h) (Or.inl ⟨by rfl, ?_⟩) ?_ ?_
              rotate_left
              · intro w'
                go_simp
                with_reducible rfl
              rotate_left
              · simp only [Act.put, List.setIfInBounds_toArray, List.set_cons_zero, List.set_cons_succ, i64_w, i32_w]
                rfl
              refine pure_ (i := 17) (N := some 182) (v := ?_) (a' := ?_) #[true, true, true, true, true, true, true, true, true, true, true, true, true, true, true, true, true, true, false, false, false, false, false, false, false, false, false, false, false, false, false, false, false, false, false, false, false, false, false, false] rfl rfl (any_of HT_.out (by kernel_rfl)) (fun _ _ _ h => h) (Or.inl ⟨by rfl, ?_⟩) ?_ ?_
              rotate_left
              · intro w'
                go_simp
                with_reducible rfl
              rotate_left
              · simp only [Act.put, List.setIfInBounds_toArray, List.set_cons_zero, List.set_cons_succ, i64_w, i32_w]
                rfl
              refine pure_ (i := 18) (N := some 183) (v := ?_) (a' := ?_) #[true, true, true, true, true, true, true, true, true, true, true, true, true, true, true, true, true, true, true, false, false, false, false, false, false, false, false, false, false, false, false, false, false, false, false, false, false, false, false, false] rfl rfl (any_of HT_.out (by kernel_rfl)) (fun _ _ _ h => h) (Or.inl ⟨by rfl, ?_⟩) ?_ ?_
              rotate_left
              · intro w'
                go_simp
                with_reducible rfl
              rotate_left
              · simp only [Act.put, List.setIfInBounds_toArray, List.set_cons_zero, List.set_cons_succ, i64_w, i32_w]
                rfl
              refine pure_ (i := 19) (N := some 184) (v := undef) (a' := ?_) #[true, true, true, true, true, true, true, true, true, true, true, true, true, true, true, true, true, true, true, true, false, false, false, false, false, false, false, false, false, false, false, false, false, false, false, false, false, false, false, false] rfl rfl (any_of HT_.out (by kernel_rfl)) (fun _ _ _ h => h) (Or.inr ⟨by rfl, rfl⟩) ?_ ?_
              rotate_left
              · simp only [Act.put, List.setIfInBounds_toArray, List.set_cons_zero, List.set_cons_succ, i64_w, i32_w]
                rfl
              refine pure_ (i := 20) (N := some 185) (v := undef) (a' := ?_) #[true, true, true, true, true, true, true, true, true, true, true, true, true, true, true, true, true, true, true, true, true, false, false, false, false, false, false, false, false, false, false, false, false, false, false, false, false, false, false, false] rfl rfl (any_of HT_.out (by kernel_rfl)) (fun _ _ _ h => h) (Or.inr ⟨by rfl, rfl⟩) ?_ ?_
              rotate_left
              · simp only [Act.put, List.setIfInBounds_toArray, List.set_cons_zero, List.set_cons_succ, i64_w, i32_w]
                rfl
              refine pure_ (i := 21) (N := some 186) (v := undef) (a' := ?_) #[true, true, true, true, true, true, true, true, true, true, true, true, true, true, true, true, true, true, true, true, true, true, false, false, false, false, false, false, false, false, false, false, false, false, false, false, false, false, false, false] rfl rfl (any_of HT_.out (by kernel_rfl)) (fun _ _ _ h => h) (Or.inr ⟨by rfl, rfl⟩) ?_ ?_
              rotate_left
              · simp only [Act.put, List.setIfInBounds_toArray, List.set_cons_zero, List.set_cons_succ, i64_w, i32_w]
                rfl
              refine pure_ (i := 22) (N := some 187) (v := undef) (a' := ?_) #[true, true, true, true, true, true, true, true, true, true, true, true, true, true, true, true, true, true, true, true, true, true, true, false, false, false, false, false, false, false, false, false, false, false, false, false, false, false, false, false] rfl rfl (any_of HT_.out (by kernel_rfl)) (fun _ _ _ h => h) (Or.inr ⟨by rfl, rfl⟩) ?_ ?_
              rotate_left
              · simp only [Act.put, List.setIfInBounds_toArray, List.set_cons_zero, List.set_cons_succ, i64_w, i32_w]
                rfl
              refine pure_ (i := 23) (N := some 188) (v := undef) (a' := ?_) #[true, true, true, true, true, true, true, true, true, true, true, true, true, true, true, true, true, true, true, true, true, true, true, true, false, false, false, false, false, false, false, false, false, false, false, false, false, false, false, false] rfl rfl (any_of HT_.out (by kernel_rfl)) (fun _ _ _ h => h) (Or.inr ⟨by rfl, rfl⟩) ?_ ?_
              rotate_left
              · simp only [Act.put, List.setIfInBounds_toArray, List.set_cons_zero, List.set_cons_succ, i64_w, i32_w]
                rfl
              refine pure_ (i := 24) (N := some 189) (v := undef) (a' := ?_) #[true, true, true, true, true, true, true, true, true, true, true, true, true, true, true, true, true, true, true, true, true, true, true, true, true, false, false, false, false, false, false, false, false, false, false, false, false, false, false, false] rfl rfl (any_of HT_.out (by kernel_rfl)) (fun _ _ _ h => h) (Or.inr ⟨by rfl, rfl⟩) ?_ ?_
              rotate_left
              · simp only [Act.put, List.setIfInBounds_toArray, List.set_cons_zero, List.set_cons_succ, i64_w, i32_w]
                rfl
              refine pure_ (i := 25) (N := some 190) (v := undef) (a' := ?_) #[true, true, true, true, true, true, true, true, true, true, true, true, true, true, true, true, true, true, true, true, true, true, true, true, true, true, false, false, false, false, false, false, false, false, false, false, false, false, false, false] rfl rfl (any_of HT_.out (by kernel_rfl)) (fun _ _ _ h => h) (Or.inr ⟨by rfl, rfl⟩) ?_ ?_
              rotate_left
              · simp only [Act.put, List.setIfInBounds_toArray, List.set_cons_zero, List.set_cons_succ, i64_w, i32_w]
                rfl
              refine pure_ (i := 26) (N := some 191) (v := undef) (a' := ?_) #[true, true, true, true, true, true, true, true, true, true, true, true, true, true, true, true, true, true, true, true, true, true, true, true, true, true, true, false, false, false, false, false, false, false, false, false, false, false, false, false] rfl rfl (any_of HT_.out (by kernel_rfl)) (fun _ _ _ h => h) (Or.inr ⟨by rfl, rfl⟩) ?_ ?_
              rotate_left
              · simp only [Act.put, List.setIfInBounds_toArray, List.set_cons_zero, List.set_cons_succ, i64_w, i32_w]
                rfl
              refine pure_ (i := 27) (N := some 192) (v := undef) (a' := ?_) #[true, true, true, true, true, true, true, true, true, true, true, true, true, true, true, true, true, true, true, true, true, true, true, true, true, true, true, true, false, false, false, false, false, false, false, false, false, false, false, false] rfl rfl (any_of HT_.out (by kernel_rfl)) (fun _ _ _ h => h) (Or.inr ⟨by rfl, rfl⟩) ?_ ?_
              rotate_left
              · simp only [Act.put, List.setIfInBounds_toArray, List.set_cons_zero, List.set_cons_succ, i64_w, i32_w]
                rfl
              refine pure_ (i := 28) (N := some 193) (v := undef) (a' := ?_) #[true, true, true, true, true, true, true, true, true, true, true, true, true, true, true, true, true, true, true, true, true, true, true, true, true, true, true, true, true, false, false, false, false, false, false, false, false, false, false, false] rfl rfl (any_of HT_.out (by kernel_rfl)) (fun _ _ _ h => h) (Or.inr ⟨by rfl, rfl⟩) ?_ ?_
              rotate_left
              · simp only [Act.put, List.setIfInBounds_toArray, List.set_cons_zero, List.set_cons_succ, i64_w, i32_w]
                rfl
              refine pure_ (i := 29) (N := some 194) (v := undef) (a' := ?_) #[true, true, true, true, true, true, true, true, true, true, true, true, true, true, true, true, true, true, true, true, true, true, true, true, true, true, true, true, true, true, false, false, false, false, false, false, false, false, false, false] rfl rfl (any_of HT_.out (by kernel_rfl)) (fun _ _ _ h => h) (Or.inr ⟨by rfl, rfl⟩) ?_ ?_
              rotate_left
              · simp only [Act.put, List.setIfInBounds_toArray, List.set_cons_zero, List.set_cons_succ, i64_w, i32_w]
                rfl
              refine pure_ (i := 30) (N := some 195) (v := undef) (a' := ?_) #[true, true, true, true, true, true, true, true, true, true, true, true, true, true, true, true, true, true, true, true, true, true, true, true, true, true, true, true, true, true, true, false, false, false, false, false, false, false, false, false] rfl rfl (any_of HT_.out (by kernel_rfl)) (fun _ _ _ h => h) (Or.inr ⟨by rfl, rfl⟩) ?_ ?_
              rotate_left
              · simp only [Act.put, List.setIfInBounds_toArray, List.set_cons_zero, List.set_cons_succ, i64_w, i32_w]
                rfl
              refine pure_ (i := 31) (N := some 196) (v := undef) (a' := ?_) #[true, true, true, true, true, true, true, true, true, true, true, true, true, true, true, true, true, true, true, true, true, true, true, true, true, true, true, true, true, true, true, true, false, false, false, false, false, false, false, false] rfl rfl (any_of HT_.out (by kernel_rfl)) (fun _ _ _ h => h) (Or.inr ⟨by rfl, rfl⟩) ?_ ?_
              rotate_left
              · simp only [Act.put, List.setIfInBounds_toArray, List.set_cons_zero, List.set_cons_succ, i64_w, i32_w]
                rfl
              refine pure_ (i := 32) (N := some 197) (v := undef) (a' := ?_) #[true, true, true, true, true, true, true, true, true, true, true, true, true, true, true, true, true, true, true, true, true, true, true, true, true, true, true, true, true, true, true, true, true, false, false, false, false, false, false, false] rfl rfl (any_of HT_.out (by kernel_rfl)) (fun _ _ _ h => h) (Or.inr ⟨by rfl, rfl⟩) ?_ ?_
              rotate_left
              · simp only [Act.put, List.setIfInBounds_toArray, List.set_cons_zero, List.set_cons_succ, i64_w, i32_w]
                rfl
              refine pure_ (i := 33) (N := some 198) (v := undef) (a' := ?_) #[true, true, true, true, true, true, true, true, true, true, true, true, true, true, true, true, true, true, true, true, true, true, true, true, true, true, true, true, true, true, true, true, true, true, false, false, false, false, false, false] rfl rfl (any_of HT_.out (by kernel_rfl)) (fun _ _ _ h => h) (Or.inr ⟨by rfl, rfl⟩) ?_ ?_
              rotate_left
              · simp only [Act.put, List.setIfInBounds_toArray, List.set_cons_zero, List.set_cons_succ, i64_w, i32_w]
                rfl
              refine pure_ (i := 34) (N := some 199) (v := undef) (a' := ?_) #[true, true, true, true, true, true, true, true, true, true, true, true, true, true, true, true, true, true, true, true, true, true, true, true, true, true, true, true, true, true, true, true, true, true, true, false, false, false, false, false] rfl rfl (any_of HT_.out (by kernel_rfl)) (fun _ _ _ h => h) (Or.inr ⟨by rfl, rfl⟩) ?_ ?_
              rotate_left
              · simp only [Act.put, List.setIfInBounds_toArray, List.set_cons_zero, List.set_cons_succ, i64_w, i32_w]
                rfl
              refine pure_ (i := 35) (N := some 200) (v := undef) (a' := ?_) #[true, true, true, true, true, true, true, true, true, true, true, true, true, true, true, true, true, true, true, true, true, true, true, true, true, true, true, true, true, true, true, true, true, true, true, true, false, false, false, false] rfl rfl (any_of HT_.out (by kernel_rfl)) (fun _ _ _ h => h) (Or.inr ⟨by rfl, rfl⟩) ?_ ?_
              rotate_left
              · simp only [Act.put, List.setIfInBounds_toArray, List.set_cons_zero, List.set_cons_succ, i64_w, i32_w]
                rfl
              refine pure_ (i := 36) (N := some 201) (v := undef) (a' := ?_) #[true, true, true, true, true, true, true, true, true, true, true, true, true, true, true, true, true, true, true, true, true, true, true, true, true, true, true, true, true, true, true, true, true, true, true, true, true, false, false, false] rfl rfl (any_of HT_.out (by kernel_rfl)) (fun _ _ _ h => h) (Or.inr ⟨by rfl, rfl⟩) ?_ ?_
              rotate_left
              · simp only [Act.put, List.setIfInBounds_toArray, List.set_cons_zero, List.set_cons_succ, i64_w, i32_w]
                rfl
              refine pure_ (i := 37) (N := some 202) (v := undef) (a' := ?_) #[true, true, true, true, true, true, true, true, true, true, true, true, true, true, true, true, true, true, true, true, true, true, true, true, true, true, true, true, true, true, true, true, true, true, true, true, true, true, false, false] rfl rfl (any_of HT_.out (by kernel_rfl)) (fun _ _ _ h => h) (Or.inr ⟨by rfl, rfl⟩) ?_ ?_
              rotate_left
              · simp only [Act.put, List.setIfInBounds_toArray, List.set_cons_zero, List.set_cons_succ, i64_w, i32_w]
                rfl
              refine pure_ (i := 38) (N := some 203) (v := ?_) (a' := ?_) #[true, true, true, true, true, true, true, true, true, true, true, true, true, true, true, true, true, true, true, true, true, true, true, true, true, true, true, true, true, true, true, true, true, true, true, true, true, true, true, false] rfl rfl (any_of HT_.out (by kernel_rfl)) (fun _ _ _ h => h) (Or.inl ⟨by rfl, ?_⟩) ?_ ?_
              rotate_left
              · intro w'
                go_simp
                with_reducible rfl
              rotate_left
              · simp only [Act.put, List.setIfInBounds_toArray, List.set_cons_zero, List.set_cons_succ, i64_w, i32_w]
                rfl
              refine pure_ (i := 39) (N := some 204) (v := ?_) (a' := ?_) #[true, true, true, true, true, true, true, true, true, true, true, true, true, true, true, true, true, true, true, true, true, true, true, true, true, true, true, true, true, true, true, true, true, true, true, true, true, true, true, true] rfl rfl (any_of HT_.out (by kernel_rfl)) (fun _ _ _ h => h) (Or.inl ⟨by rfl, ?_⟩) ?_ ?_
              rotate_left
              · intro w'
                go_simp
                with_reducible rfl
              rotate_left
              · simp only [Act.put, List.setIfInBounds_toArray, List.set_cons_zero, List.set_cons_succ, i64_w, i32_w]
                rfl
              refine done_ (done_of HT_.out (by kernel_rfl)) ?_
              clear hHeld
              go_wp2_with fail
              go_roundg k1
              case measure => have := HJ.out; omega
              case rel => exact ⟨j + 1, by go_num, ⟨by have := HJ.out; omega⟩, ⟨by repeat (first | exact HW.out | apply pw_below_drewN | apply below_drew)⟩⟩
    case rest =>
      generalize wc = w11 at hcut ⊢
      have HB11 := Aside0.mk (show Below w10.heap.size w10 w11 from hcut)
      clear hcut
      have gac0_11 := pw_cell_below HB11.out gac0_10
      clear gac0_10
      have gac1_11 := pw_cell_below HB11.out gac1_10
      clear gac1_10
      go_upto_if 206 with (fail)
      go_cut [] from 207 to 242 (fun  wx => Below w11.heap.size w11 wx)
      case first =>
        cases three
        focus
          go_wp2_with fail
          go_meet
          case rel => exact (by repeat (first | exact (Below.refl _ _) | apply pw_below_drewN | apply below_drew | apply below_alloc))
        focus
          obtain ⟨hs0, hsu, hux, hx40, hfb, hks, hle, hkb⟩ := HBr.out (by trivial)
          subst hfb
          obtain ⟨ab, eB, hb0⟩ := Kd.at_int Hv4.out.2.2 0 (by omega) (by simp)
          subst eB
          obtain ⟨ab', eB, hb1⟩ := Kd.at_int Hv4.out.2.2 1 (by omega) (by simp)
          cases eB
          have hp0 : w11.cell? ab = some (.int .i64 S) := by
            have h_ := pw_cell_below (lw_then (lw_then HB9.out HB10.out) HB11.out) hb0
            rw [show ab.add (0 : Int).toNat = ab from by cases ab; rfl] at h_
            exact h_
          have hp1 : w11.cell? ({ block := ab.block, off := ab.off + 1 } : Addr) = some (.int .i64 U) := pw_cell_below (lw_then (lw_then HB9.out HB10.out) HB11.out) hb1
          clear hb0 hb1
          have eU : wrap64 (U + 1) = U + 1 := w64 (by omega) (by omega)
          have hC := Kd.C_below Hv1.out.2.2 (lw_then (lw_then (lw_then (lw_then (lw_then (lw_then (lw_then (lw_then HB3.out HB4.out) HB5.out) HB6.out) HB7.out) HB8.out) HB9.out) HB10.out) HB11.out)
          obtain ⟨i0_, hi0_, _, hsz_, _⟩ := info_parts info3
          obtain ⟨Am, hcut1, hAm, hCm⟩ := print_mid_of (P := Try.prog) (Value.int .i64) 0 26 3 .i64 .i64 Try.underlying26 hi0_ hsz_ Av1 cv1 X S (wrap64 (U + 1)) hs0 (by omega) (by omega) Hv1.out.2.1
          obtain ⟨hcut2, hAt, hCt⟩ := print_take_of (P := Try.prog) (Value.int .i64) 0 26 3 .i64 Try.underlying26 hi0_ hsz_ Av1 cv1 X U (by omega) (by omega) Hv1.out.2.1
          have HLN : ((X.take (wrap64 (U + 1)).toNat).drop S.toNat).length = (wrap64 (U + 1)).toNat - S.toNat := by rw [List.length_drop, List.length_take, Nat.min_eq_left (by omega)]
          have HLT : (X.take U.toNat).length = U.toNat := by rw [List.length_take, Nat.min_eq_left (by omega)]
          have HRm := Kd.C_of_reads (h1 := fun _ => rfl) (hAm _ (Kd.reads_of_C hC))
          have HRt := Kd.C_of_reads (h1 := fun _ => rfl) (hAt _ (Kd.reads_of_C hC))
          have hqs := fun (w9 : World) (hb9 : Below w11.heap.size w11 w9) => laws_kSum.calls kq Am _ _ sm w9 (Kd.C_below HRm hb9) hCm hks
          have hqk := fun (w9 : World) (hb9 : Below w11.heap.size w11 w9) => impl_KeepsBucket.calls kq r d Av1 cv1 (X.take U.toNat) true true w9 (Kd.C_below HRt hb9) hCt hkb
          simp only [HLN] at hcut1 hqs
          simp only [HLT] at hcut2 hqk
          have HQs := Aside0.mk hqs
          have HQk := Aside0.mk hqk
          clear hC hAm hAt hCm hCt hi0_ hsz_ hks hkb eU hs0 hsu hux hx40 HRm HRt hqs hqk HLN HLT
          go_wp2_with fail
          refine start_ (n := 8) (S := fun w' => w'.cell? ab = some (.int .i64 S) ∧ w'.cell? ({ block := ab.block, off := ab.off + 1 } : Addr) = some (.int .i64 U)) (ds := []) #[false, false, false, false, false, false, false, false] (by kernel_rfl) rfl rfl ⟨pw_cell_below (by repeat (first | exact Below.refl _ _ | apply pw_below_drewN | apply below_drew)) hp0, pw_cell_below (by repeat (first | exact Below.refl _ _ | apply pw_below_drewN | apply below_drew)) hp1⟩ (fun hHeld => ?_)
          refine with_tabW law20.tab20 law20.bits20 (fun HT_ HW_ => ?_)
          refine pure_ (i := 0) (N := some 207) (v := ?_) (a' := ?_) #[true, false, false, false, false, false, false, false] rfl rfl (any_of HT_.out (by kernel_rfl)) (fun _ _ _ h => h) (Or.inl ⟨by rfl, ?_⟩) ?_ ?_
          rotate_left
          · intro w'
            go_simp
            with_reducible rfl
          rotate_left
          · simp only [Act.put, List.setIfInBounds_toArray, List.set_cons_zero, List.set_cons_succ, i64_w, i32_w]
            rfl
          refine pure_ (i := 1) (N := some 208) (v := ?_) (a' := ?_) #[true, true, false, false, false, false, false, false] rfl rfl (any_of HT_.out (by kernel_rfl)) (fun _ _ _ h => h) (Or.inl ⟨by rfl, ?_⟩) ?_ ?_
          rotate_left
          · intro w'
            go_simp
            with_reducible rfl
          rotate_left
          · simp only [Act.put, List.setIfInBounds_toArray, List.set_cons_zero, List.set_cons_succ, i64_w, i32_w]
            rfl
          refine pure_ (i := 3) (N := some 210) (v := ?_) (a' := ?_) #[true, true, false, true, false, false, false, false] rfl rfl (any_of HT_.out (by kernel_rfl)) (fun _ _ _ h => h) (Or.inl ⟨by rfl, ?_⟩) ?_ ?_
          rotate_left
          · intro w'
            go_simp
            with_reducible rfl
          rotate_left
          · simp only [Act.put, List.setIfInBounds_toArray, List.set_cons_zero, List.set_cons_succ, i64_w, i32_w]
            rfl
          refine pure_ (i := 4) (N := some 211) (v := ?_) (a' := ?_) #[true, true, false, true, true, false, false, false] rfl rfl (any_of HT_.out (by kernel_rfl)) (fun _ _ _ h => h) (Or.inl ⟨by rfl, ?_⟩) ?_ ?_
          rotate_left
          · intro w'
            go_simp
            with_reducible rfl
          rotate_left
          · simp only [Act.put, List.setIfInBounds_toArray, List.set_cons_zero, List.set_cons_succ, i64_w, i32_w]
            rfl
          refine take_ (i := 2) (N := some 209) (v := ?_) (a' := ?_) #[true, true, true, true, true, false, false, false] rfl rfl (take_ofW HT_.out HW_.out (by kernel_rfl)) (fun _ _ _ h => h) (Or.inl ⟨by rfl, ?_⟩) hHeld ?_ ?_
          rotate_left
          · rintro w' ⟨s0, s1⟩
            go_simp
            with_reducible rfl
          rotate_left
          · simp only [Act.put, List.setIfInBounds_toArray, List.set_cons_zero, List.set_cons_succ, i64_w, i32_w]
            rfl
          refine pure_ (i := 6) (N := some 21) (v := ?_) (a' := ?_) #[true, true, true, true, true, false, true, false] rfl rfl (any_of HT_.out (by kernel_rfl)) (fun _ _ _ h => h) (Or.inl ⟨by rfl, ?_⟩) ?_ ?_
          rotate_left
          · intro w'
            go_simp
            with_reducible rfl
          rotate_left
          · simp only [Act.put, List.setIfInBounds_toArray, List.set_cons_zero, List.set_cons_succ, i64_w, i32_w]
            rfl
          refine take_ (i := 5) (N := some 212) (v := ?_) (a' := ?_) #[true, true, true, true, true, true, true, false] rfl rfl (take_ofW HT_.out HW_.out (by kernel_rfl)) (fun _ _ _ h => h) (Or.inl ⟨by rfl, ?_⟩) hHeld ?_ ?_
          rotate_left
          · rintro w' ⟨s0, s1⟩
            go_simp
            with_reducible rfl
          rotate_left
          · simp only [Act.put, List.setIfInBounds_toArray, List.set_cons_zero, List.set_cons_succ, i64_w, i32_w]
            rfl
          refine pure_ (i := 7) (N := some 22) (v := ?_) (a' := ?_) #[true, true, true, true, true, true, true, true] rfl rfl (any_of HT_.out (by kernel_rfl)) (fun _ _ _ h => h) (Or.inl ⟨by rfl, ?_⟩) ?_ ?_
          rotate_left
          · intro w'
            go_simp
            with_reducible rfl
          rotate_left
          · simp only [Act.put, List.setIfInBounds_toArray, List.set_cons_zero, List.set_cons_succ, i64_w, i32_w]
            rfl
          refine done_ (done_of HT_.out (by kernel_rfl)) ?_
          clear hHeld
          go_wp2_with fail
          refine start_ (n := 16) (S := fun w' => w'.cell? ⟨ga, 0, none⟩ = some (.int .i64 r) ∧ w'.cell? ⟨ga, 1, none⟩ = some (.int .i64 d)) (ds := []) #[false, false, false, false, false, false, false, false, false, false, false, false, false, false, false, false] (by kernel_rfl) rfl rfl ⟨pw_cell_below (by repeat (first | exact Below.refl _ _ | apply pw_below_drewN | apply below_drew)) gac0_11, pw_cell_below (by repeat (first | exact Below.refl _ _ | apply pw_below_drewN | apply below_drew)) gac1_11⟩ (fun hHeld => ?_)
          refine with_tabW law21.tab21 law21.bits21 (fun HT_ HW_ => ?_)
          refine pure_ (i := 0) (N := some 213) (v := ?_) (a' := ?_) #[true, false, false, false, false, false, false, false, false, false, false, false, false, false, false, false] rfl rfl (any_of HT_.out (by kernel_rfl)) (fun _ _ _ h => h) (Or.inl ⟨by rfl, ?_⟩) ?_ ?_
          rotate_left
          · intro w'
            go_simp
            with_reducible rfl
          rotate_left
          · simp only [Act.put, List.setIfInBounds_toArray, List.set_cons_zero, List.set_cons_succ, i64_w, i32_w]
            rfl
          refine pure_ (i := 1) (N := some 214) (v := ?_) (a' := ?_) #[true, true, false, false, false, false, false, false, false, false, false, false, false, false, false, false] rfl rfl (any_of HT_.out (by kernel_rfl)) (fun _ _ _ h => h) (Or.inl ⟨by rfl, ?_⟩) ?_ ?_
          rotate_left
          · intro w'
            go_simp
            with_reducible rfl
          rotate_left
          · simp only [Act.put, List.setIfInBounds_toArray, List.set_cons_zero, List.set_cons_succ, i64_w, i32_w]
            rfl
          refine pure_ (i := 2) (N := some 215) (v := ?_) (a' := ?_) #[true, true, true, false, false, false, false, false, false, false, false, false, false, false, false, false] rfl rfl (any_of HT_.out (by kernel_rfl)) (fun _ _ _ h => h) (Or.inl ⟨by rfl, ?_⟩) ?_ ?_
          rotate_left
          · intro w'
            go_simp
            with_reducible rfl
          rotate_left
          · simp only [Act.put, List.setIfInBounds_toArray, List.set_cons_zero, List.set_cons_succ, i64_w, i32_w]
            rfl
          refine pure_ (i := 3) (N := some 216) (v := ?_) (a' := ?_) #[true, true, true, true, false, false, false, false, false, false, false, false, false, false, false, false] rfl rfl (any_of HT_.out (by kernel_rfl)) (fun _ _ _ h => h) (Or.inl ⟨by rfl, ?_⟩) ?_ ?_
          rotate_left
          · intro w'
            go_simp
            with_reducible rfl
          rotate_left
          · simp only [Act.put, List.setIfInBounds_toArray, List.set_cons_zero, List.set_cons_succ, i64_w, i32_w]
            rfl
          refine pure_ (i := 4) (N := some 217) (v := ?_) (a' := ?_) #[true, true, true, true, true, false, false, false, false, false, false, false, false, false, false, false] rfl rfl (any_of HT_.out (by kernel_rfl)) (fun _ _ _ h => h) (Or.inl ⟨by rfl, ?_⟩) ?_ ?_
          rotate_left
          · intro w'
            go_simp
            with_reducible rfl
          rotate_left
          · simp only [Act.put, List.setIfInBounds_toArray, List.set_cons_zero, List.set_cons_succ, i64_w, i32_w]
            rfl
          refine pure_ (i := 6) (N := some 219) (v := ?_) (a' := ?_) #[true, true, true, true, true, false, true, false, false, false, false, false, false, false, false, false] rfl rfl (any_of HT_.out (by kernel_rfl)) (fun _ _ _ h => h) (Or.inl ⟨by rfl, ?_⟩) ?_ ?_
          rotate_left
          · intro w'
            go_simp
            with_reducible rfl
          rotate_left
          · simp only [Act.put, List.setIfInBounds_toArray, List.set_cons_zero, List.set_cons_succ, i64_w, i32_w]
            rfl
          refine pure_ (i := 8) (N := some 221) (v := ?_) (a' := ?_) #[true, true, true, true, true, false, true, false, true, false, false, false, false, false, false, false] rfl rfl (any_of HT_.out (by kernel_rfl)) (fun _ _ _ h => h) (Or.inl ⟨by rfl, ?_⟩) ?_ ?_
          rotate_left
          · intro w'
            go_simp
            with_reducible rfl
          rotate_left
          · simp only [Act.put, List.setIfInBounds_toArray, List.set_cons_zero, List.set_cons_succ, i64_w, i32_w]
            rfl
          refine pure_ (i := 10) (N := some 223) (v := ?_) (a' := ?_) #[true, true, true, true, true, false, true, false, true, false, true, false, false, false, false, false] rfl rfl (any_of HT_.out (by kernel_rfl)) (fun _ _ _ h => h) (Or.inl ⟨by rfl, ?_⟩) ?_ ?_
          rotate_left
          · intro w'
            go_simp
            with_reducible rfl
          rotate_left
          · simp only [Act.put, List.setIfInBounds_toArray, List.set_cons_zero, List.set_cons_succ, i64_w, i32_w]
            rfl
          refine pure_ (i := 11) (N := some 224) (v := ?_) (a' := ?_) #[true, true, true, true, true, false, true, false, true, false, true, true, false, false, false, false] rfl rfl (any_of HT_.out (by kernel_rfl)) (fun _ _ _ h => h) (Or.inl ⟨by rfl, ?_⟩) ?_ ?_
          rotate_left
          · intro w'
            go_simp
            with_reducible rfl
          rotate_left
          · simp only [Act.put, List.setIfInBounds_toArray, List.set_cons_zero, List.set_cons_succ, i64_w, i32_w]
            rfl
          refine pure_ (i := 12) (N := some 225) (v := ?_) (a' := ?_) #[true, true, true, true, true, false, true, false, true, false, true, true, true, false, false, false] rfl rfl (any_of HT_.out (by kernel_rfl)) (fun _ _ _ h => h) (Or.inl ⟨by rfl, ?_⟩) ?_ ?_
          rotate_left
          · intro w'
            go_simp
            with_reducible rfl
          rotate_left
          · simp only [Act.put, List.setIfInBounds_toArray, List.set_cons_zero, List.set_cons_succ, i64_w, i32_w]
            rfl
          refine take_ (i := 7) (N := some 220) (v := ?_) (a' := ?_) #[true, true, true, true, true, false, true, true, true, false, true, true, true, false, false, false] rfl rfl (take_ofW HT_.out HW_.out (by kernel_rfl)) (fun _ _ _ h => h) (Or.inl ⟨by rfl, ?_⟩) hHeld ?_ ?_
          rotate_left
          · rintro w' ⟨s0, s1⟩
            go_simp
            with_reducible rfl
          rotate_left
          · simp only [Act.put, List.setIfInBounds_toArray, List.set_cons_zero, List.set_cons_succ, i64_w, i32_w]
            rfl
          refine take_ (i := 9) (N := some 222) (v := ?_) (a' := ?_) #[true, true, true, true, true, false, true, true, true, true, true, true, true, false, false, false] rfl rfl (take_ofW HT_.out HW_.out (by kernel_rfl)) (fun _ _ _ h => h) (Or.inl ⟨by rfl, ?_⟩) hHeld ?_ ?_
          rotate_left
          · rintro w' ⟨s0, s1⟩
            go_simp
            with_reducible rfl
          rotate_left
          · simp only [Act.put, List.setIfInBounds_toArray, List.set_cons_zero, List.set_cons_succ, i64_w, i32_w]
            rfl
          refine pure_ (i := 13) (N := some 226) (v := ?_) (a' := ?_) #[true, true, true, true, true, false, true, true, true, true, true, true, true, true, false, false] rfl rfl (any_of HT_.out (by kernel_rfl)) (fun _ _ _ h => h) (Or.inl ⟨by rfl, ?_⟩) ?_ ?_
          rotate_left
          · intro w'
            go_simp
            with_reducible rfl
          rotate_left
          · simp only [Act.put, List.setIfInBounds_toArray, List.set_cons_zero, List.set_cons_succ, i64_w, i32_w]
            rfl
          refine pure_ (i := 14) (N := some 227) (v := ?_) (a' := ?_) #[true, true, true, true, true, false, true, true, true, true, true, true, true, true, true, false] rfl rfl (any_of HT_.out (by kernel_rfl)) (fun _ _ _ h => h) (Or.inl ⟨by rfl, ?_⟩) ?_ ?_
          rotate_left
          · intro w'
            go_simp
            with_reducible rfl
          rotate_left
          · simp only [Act.put, List.setIfInBounds_toArray, List.set_cons_zero, List.set_cons_succ, i64_w, i32_w]
            rfl
          refine one_ (i := 5) (N := some 218) #[true, true, true, true, true, true, true, true, true, true, true, true, true, true, true, false] rfl rfl (one_of HT_.out (by kernel_rfl)) (by decide) (fun K hK => ?_)
          refine goes_ Try.func14 (by kernel_rfl) rfl #[.slice Am ((wrap64 (U + 1)).toNat - S.toNat) (cv1 - S.toNat)] (by rfl) rfl rfl (by simp only [List.map_toArray, List.map_cons, List.map_nil]; rfl) ?_
          with_reducible refine ((HQs.out _ (by repeat (first | exact Below.refl _ _ | apply pw_below_drewN | apply below_drew)))).mono ?_
          rintro e w' ⟨rfl, ⟨nd, rfl⟩⟩
          refine ⟨_, rfl, ?_⟩
          refine hK.out _ _ ⟨pw_cell_below (by repeat (first | exact Below.refl _ _ | apply pw_below_drewN | apply below_drew)) gac0_11, pw_cell_below (by repeat (first | exact Below.refl _ _ | apply pw_below_drewN | apply below_drew)) gac1_11⟩ (fun hHeld => ?_)
          clear hK K
          refine norm_ (a' := ?_) ?_ ?_
          rotate_left
          · show Act.put _ (some 218) _ = _
            simp only [Act.put, List.setIfInBounds_toArray, List.set_cons_zero, List.set_cons_succ, i64_w, i32_w]
            rfl
          refine pure_ (i := 15) (N := some 228) (v := ?_) (a' := ?_) #[true, true, true, true, true, true, true, true, true, true, true, true, true, true, true, true] rfl rfl (any_of HT_.out (by kernel_rfl)) (fun _ _ _ h => h) (Or.inl ⟨by rfl, ?_⟩) ?_ ?_
          rotate_left
          · intro w'
            go_simp
            with_reducible rfl
          rotate_left
          · simp only [Act.put, List.setIfInBounds_toArray, List.set_cons_zero, List.set_cons_succ, i64_w, i32_w]
            rfl
          refine done_ (done_of HT_.out (by kernel_rfl)) ?_
          clear hHeld
          go_wp2_with fail
          refine start_ (n := 10) (S := fun w' => w'.cell? ⟨ga, 0, none⟩ = some (.int .i64 r) ∧ w'.cell? ⟨ga, 1, none⟩ = some (.int .i64 d)) (ds := []) #[false, false, false, false, false, false, false, false, false, false] (by kernel_rfl) rfl rfl ⟨pw_cell_below (by repeat (first | exact Below.refl _ _ | apply pw_below_drewN | apply below_drew)) gac0_11, pw_cell_below (by repeat (first | exact Below.refl _ _ | apply pw_below_drewN | apply below_drew)) gac1_11⟩ (fun hHeld => ?_)
          refine with_tabW law23.tab23 law23.bits23 (fun HT_ HW_ => ?_)
          refine pure_ (i := 1) (N := some 231) (v := ?_) (a' := ?_) #[false, true, false, false, false, false, false, false, false, false] rfl rfl (any_of HT_.out (by kernel_rfl)) (fun _ _ _ h => h) (Or.inl ⟨by rfl, ?_⟩) ?_ ?_
          rotate_left
          · intro w'
            go_simp
            with_reducible rfl
          rotate_left
          · simp only [Act.put, List.setIfInBounds_toArray, List.set_cons_zero, List.set_cons_succ, i64_w, i32_w]
            rfl
          refine pure_ (i := 2) (N := some 232) (v := ?_) (a' := ?_) #[false, true, true, false, false, false, false, false, false, false] rfl rfl (any_of HT_.out (by kernel_rfl)) (fun _ _ _ h => h) (Or.inl ⟨by rfl, ?_⟩) ?_ ?_
          rotate_left
          · intro w'
            go_simp
            with_reducible rfl
          rotate_left
          · simp only [Act.put, List.setIfInBounds_toArray, List.set_cons_zero, List.set_cons_succ, i64_w, i32_w]
            rfl
          refine pure_ (i := 3) (N := some 233) (v := ?_) (a' := ?_) #[false, true, true, true, false, false, false, false, false, false] rfl rfl (any_of HT_.out (by kernel_rfl)) (fun _ _ _ h => h) (Or.inl ⟨by rfl, ?_⟩) ?_ ?_
          rotate_left
          · intro w'
            go_simp
            with_reducible rfl
          rotate_left
          · simp only [Act.put, List.setIfInBounds_toArray, List.set_cons_zero, List.set_cons_succ, i64_w, i32_w]
            rfl
          refine take_ (i := 0) (N := some 230) (v := ?_) (a' := ?_) #[true, true, true, true, false, false, false, false, false, false] rfl rfl (take_ofW HT_.out HW_.out (by kernel_rfl)) (fun _ _ _ h => h) (Or.inl ⟨by rfl, ?_⟩) hHeld ?_ ?_
          rotate_left
          · rintro w' ⟨s0, s1⟩
            go_simp
            with_reducible rfl
          rotate_left
          · simp only [Act.put, List.setIfInBounds_toArray, List.set_cons_zero, List.set_cons_succ, i64_w, i32_w]
            rfl
          refine one_ (i := 4) (N := some 234) #[true, true, true, true, true, false, false, false, false, false] rfl rfl (one_of HT_.out (by kernel_rfl)) (by decide) (fun K hK => ?_)
          refine goes_ Try.func15 (by kernel_rfl) rfl #[.agg #[.int .i64 r, .int .i64 d], .slice Av1 U.toNat cv1] (by rfl) rfl rfl (by simp only [List.map_toArray, List.map_cons, List.map_nil]; rfl) ?_
          with_reducible refine ((HQk.out _ (by repeat (first | exact Below.refl _ _ | apply pw_below_drewN | apply below_drew)))).mono ?_
          rintro e w12 ⟨rfl, hb⟩
          refine ⟨_, rfl, ?_⟩
          have HB12 := Aside0.mk (show Below w11.heap.size w11 w12 from lw_then (by repeat (first | exact Below.refl _ _ | apply pw_below_drewN | apply below_drew)) hb)
          clear hb
          refine hK.out _ _ ⟨pw_cell_below HB12.out gac0_11, pw_cell_below HB12.out gac1_11⟩ (fun hHeld => ?_)
          clear hK K
          refine norm_ (a' := ?_) ?_ ?_
          rotate_left
          · show Act.put _ (some 234) _ = _
            simp only [Act.put, List.setIfInBounds_toArray, List.set_cons_zero, List.set_cons_succ, i64_w, i32_w]
            rfl
          refine pure_ (i := 5) (N := some 229) (v := ?_) (a' := ?_) #[true, true, true, true, true, true, false, false, false, false] rfl rfl (any_of HT_.out (by kernel_rfl)) (fun _ _ _ h => h) (Or.inl ⟨by rfl, ?_⟩) ?_ ?_
          rotate_left
          · intro w'
            go_simp
            with_reducible rfl
          rotate_left
          · simp only [Act.put, List.setIfInBounds_toArray, List.set_cons_zero, List.set_cons_succ, i64_w, i32_w]
            rfl
          refine pure_ (i := 6) (N := some 235) (v := ?_) (a' := ?_) #[true, true, true, true, true, true, true, false, false, false] rfl rfl (any_of HT_.out (by kernel_rfl)) (fun _ _ _ h => h) (Or.inl ⟨by rfl, ?_⟩) ?_ ?_
          rotate_left
          · intro w'
            go_simp
            with_reducible rfl
          rotate_left
          · simp only [Act.put, List.setIfInBounds_toArray, List.set_cons_zero, List.set_cons_succ, i64_w, i32_w]
            rfl
          refine pure_ (i := 7) (N := some 236) (v := ?_) (a' := ?_) #[true, true, true, true, true, true, true, true, false, false] rfl rfl (any_of HT_.out (by kernel_rfl)) (fun _ _ _ h => h) (Or.inl ⟨by rfl, ?_⟩) ?_ ?_
          rotate_left
          · intro w'
            go_simp
            with_reducible rfl
          rotate_left
          · simp only [Act.put, List.setIfInBounds_toArray, List.set_cons_zero, List.set_cons_succ, i64_w, i32_w]
            rfl
          refine pure_ (i := 8) (N := some 23) (v := ?_) (a' := ?_) #[true, true, true, true, true, true, true, true, true, false] rfl rfl (any_of HT_.out (by kernel_rfl)) (fun _ _ _ h => h) (Or.inl ⟨by rfl, ?_⟩) ?_ ?_
          rotate_left
          · intro w'
            go_simp
            with_reducible rfl
          rotate_left
          · simp only [Act.put, List.setIfInBounds_toArray, List.set_cons_zero, List.set_cons_succ, i64_w, i32_w]
            rfl
          refine pure_ (i := 9) (N := some 24) (v := ?_) (a' := ?_) #[true, true, true, true, true, true, true, true, true, true] rfl rfl (any_of HT_.out (by kernel_rfl)) (fun _ _ _ h => h) (Or.inl ⟨by rfl, ?_⟩) ?_ ?_
          rotate_left
          · intro w'
            go_simp
            with_reducible rfl
          rotate_left
          · simp only [Act.put, List.setIfInBounds_toArray, List.set_cons_zero, List.set_cons_succ, i64_w, i32_w]
            rfl
          refine done_ (done_of HT_.out (by kernel_rfl)) ?_
          clear hHeld
          go_wp2_with fail
          go_meet
          case rel => exact (by repeat (first | exact HB12.out | apply pw_below_drewN | apply below_drew | apply below_alloc))
      case rest =>
        generalize wc = w12 at hcut ⊢
        have HB12 := Aside0.mk (show Below w11.heap.size w11 w12 from hcut)
        clear hcut
        have gac0_12 := pw_cell_below HB12.out gac0_11
        clear gac0_11
        have gac1_12 := pw_cell_below HB12.out gac1_11
        clear gac1_11
        clear gac0_12 gac1_12
        go_wp2_with fail
        (refine (spec_DrawLeastDepth.calls kq B e m _ _ _ (Kd.C_below HB.out (by repeat (first | exact (lw_then (lw_then (lw_then (lw_then (lw_then (lw_then (lw_then (lw_then (lw_then (lw_then HB1.out HB3.out) HB4.out) HB5.out) HB6.out) HB7.out) HB8.out) HB9.out) HB10.out) HB11.out) HB12.out) | apply pw_below_drewN | apply below_drew | apply below_alloc))) HBL.out HD2.out).mono ?_)
        rintro e w13 ⟨v6, rfl, hr, hb⟩
        have HB13 := Aside0.mk (show Below w12.heap.size w12 w13 from lw_then (by repeat (first | exact (Below.refl _ _) | apply pw_below_drewN | apply below_drew | apply below_alloc)) hb)
        obtain ⟨Av6, cv6, rfl⟩ := Kd.R_slice hr
        have Hv6 := Aside0.mk (Kd.R_reads' hr)
        clear hr
        clear hb
        go_wp2_with fail
        (refine (impl_LeastDepth.calls kq ra Av6 cv6 Y _ _ _ (Kd.C_below Hv6.out.2.2 (by repeat (first | exact (Below.refl _ _) | apply pw_below_drewN | apply below_drew | apply below_alloc))) Hv6.out.2.1 HI4.out).mono ?_)
        rintro e w14 ⟨rfl, hb⟩
        have HB14 := Aside0.mk (show Below w13.heap.size w13 w14 from lw_then (by repeat (first | exact (Below.refl _ _) | apply pw_below_drewN | apply below_drew | apply below_alloc)) hb)
        clear hb
        go_wp2_with fail
        (refine (spec_LeastDepth.calls kq ra Av6 cv6 Y _ _ _ (Kd.C_below Hv6.out.2.2 (by repeat (first | exact HB14.out | apply pw_below_drewN | apply below_drew | apply below_alloc))) Hv6.out.2.1 HS4.out).mono ?_)
        rintro e w' ⟨rfl, ⟨nd9, rfl⟩⟩
        go_upto_if 268 with (fail)
        go_cut [] from 269 to 297 (fun  wx => Below w14.heap.size w14 wx)
        case first =>
          cases told
          focus
            go_wp2_with fail
            go_meet
            case rel => exact (by repeat (first | exact (Below.refl _ _) | apply pw_below_drewN | apply below_drew | apply below_alloc))
          focus
            go_wp2_with fail
            (refine (impl_KeepsBucket.calls kq ra dep Av6 cv6 Y _ _ _ (Kd.C_below Hv6.out.2.2 (by repeat (first | exact HB14.out | apply pw_below_drewN | apply below_drew | apply below_alloc))) Hv6.out.2.1 (HT.out (by trivial)).1).mono ?_)
            rintro e w15 ⟨rfl, hb⟩
            have HB15 := Aside0.mk (show Below w14.heap.size w14 w15 from lw_then (by repeat (first | exact (Below.refl _ _) | apply pw_below_drewN | apply below_drew | apply below_alloc)) hb)
            clear hb
            go_wp2_with fail
            (refine (impl_KeepsBucket.calls kq ra (wrap64 (dep - 1)) Av6 cv6 Y _ _ _ (Kd.C_below Hv6.out.2.2 (by repeat (first | exact (lw_then HB14.out HB15.out) | apply pw_below_drewN | apply below_drew | apply below_alloc))) Hv6.out.2.1 (HT.out (by trivial)).2).mono ?_)
            rintro e w16 ⟨rfl, hb⟩
            have HB16 := Aside0.mk (show Below w15.heap.size w15 w16 from lw_then (by repeat (first | exact (Below.refl _ _) | apply pw_below_drewN | apply below_drew | apply below_alloc)) hb)
            clear hb
            cases six
            focus
              go_wp2_with fail
              go_meet
              case rel => exact (by repeat (first | exact (lw_then HB15.out HB16.out) | apply pw_below_drewN | apply below_drew | apply below_alloc))
            focus
              go_wp2_with fail
              go_meet
              case rel => exact (by repeat (first | exact (lw_then HB15.out HB16.out) | apply pw_below_drewN | apply below_drew | apply below_alloc))
        case rest =>
          generalize wc = w15 at hcut ⊢
          have HB15 := Aside0.mk (show Below w14.heap.size w14 w15 from hcut)
          clear hcut
          go_wp2_with fail
          (refine (spec_DrawLeastRate.calls kq B e m _ _ _ (Kd.C_below HB.out (by repeat (first | exact (lw_then (lw_then (lw_then (lw_then (lw_then (lw_then (lw_then (lw_then (lw_then (lw_then (lw_then (lw_then (lw_then HB1.out HB3.out) HB4.out) HB5.out) HB6.out) HB7.out) HB8.out) HB9.out) HB10.out) HB11.out) HB12.out) HB13.out) HB14.out) HB15.out) | apply pw_below_drewN | apply below_drew | apply below_alloc))) HBL.out HD3.out).mono ?_)
          rintro e w16 ⟨v7, rfl, hr, hb⟩
          have HB16 := Aside0.mk (show Below w15.heap.size w15 w16 from lw_then (by repeat (first | exact (Below.refl _ _) | apply pw_below_drewN | apply below_drew | apply below_alloc)) hb)
          obtain ⟨Av7, cv7, rfl⟩ := Kd.R_slice hr
          have Hv7 := Aside0.mk (Kd.R_reads' hr)
          clear hr
          clear hb
          go_wp2_with fail
          (refine (impl_LeastRate.calls kq deep Av7 cv7 Z _ _ _ (Kd.C_below Hv7.out.2.2 (by repeat (first | exact (Below.refl _ _) | apply pw_below_drewN | apply below_drew | apply below_alloc))) Hv7.out.2.1 HI5.out).mono ?_)
          rintro e w17 ⟨rfl, hb⟩
          have HB17 := Aside0.mk (show Below w16.heap.size w16 w17 from lw_then (by repeat (first | exact (Below.refl _ _) | apply pw_below_drewN | apply below_drew | apply below_alloc)) hb)
          clear hb
          go_wp2_with fail
          (refine (spec_LeastRate.calls kq deep Av7 cv7 Z _ _ _ (Kd.C_below Hv7.out.2.2 (by repeat (first | exact HB17.out | apply pw_below_drewN | apply below_drew | apply below_alloc))) Hv7.out.2.1 HS5.out).mono ?_)
          rintro e w18 ⟨rfl, hb⟩
          have HB18 := Aside0.mk (show Below w17.heap.size w17 w18 from lw_then (by repeat (first | exact (Below.refl _ _) | apply pw_below_drewN | apply below_drew | apply below_alloc)) hb)
          clear hb
          go_upto_if 323 with (fail)
          go_cut [] from 324 to 352 (fun  wx => Below w18.heap.size w18 wx)
          case first =>
            cases five
            focus
              go_wp2_with fail
              go_meet
              case rel => exact (by repeat (first | exact (Below.refl _ _) | apply pw_below_drewN | apply below_drew | apply below_alloc))
            focus
              go_wp2_with fail
              (refine (impl_KeepsBucket.calls kq lst deep Av7 cv7 Z _ _ _ (Kd.C_below Hv7.out.2.2 (by repeat (first | exact (lw_then HB17.out HB18.out) | apply pw_below_drewN | apply below_drew | apply below_alloc))) Hv7.out.2.1 (HF.out (by trivial)).1).mono ?_)
              rintro e w19 ⟨rfl, hb⟩
              have HB19 := Aside0.mk (show Below w18.heap.size w18 w19 from lw_then (by repeat (first | exact (Below.refl _ _) | apply pw_below_drewN | apply below_drew | apply below_alloc)) hb)
              clear hb
              go_wp2_with fail
              (refine (impl_KeepsBucket.calls kq (wrap64 (lst - 1)) deep Av7 cv7 Z _ _ _ (Kd.C_below Hv7.out.2.2 (by repeat (first | exact (lw_then (lw_then HB17.out HB18.out) HB19.out) | apply pw_below_drewN | apply below_drew | apply below_alloc))) Hv7.out.2.1 (HF.out (by trivial)).2).mono ?_)
              rintro e w20 ⟨rfl, hb⟩
              have HB20 := Aside0.mk (show Below w19.heap.size w19 w20 from lw_then (by repeat (first | exact (Below.refl _ _) | apply pw_below_drewN | apply below_drew | apply below_alloc)) hb)
              clear hb
              cases eight
              focus
                go_wp2_with fail
                go_meet
                case rel => exact (by repeat (first | exact (lw_then HB19.out HB20.out) | apply pw_below_drewN | apply below_drew | apply below_alloc))
              focus
                go_wp2_with fail
                go_meet
                case rel => exact (by repeat (first | exact (lw_then HB19.out HB20.out) | apply pw_below_drewN | apply below_drew | apply below_alloc))
          case rest =>
            generalize wc = w19 at hcut ⊢
            have HB19 := Aside0.mk (show Below w18.heap.size w18 w19 from hcut)
            clear hcut
            go_wp2_with fail
            (refine (spec_DrawKeepsBoth.calls kq B e m _ _ _ _ _ _ (Kd.C_below HB.out (by repeat (first | exact (lw_then (lw_then (lw_then (lw_then (lw_then (lw_then (lw_then (lw_then (lw_then (lw_then (lw_then (lw_then (lw_then (lw_then (lw_then (lw_then (lw_then HB1.out HB3.out) HB4.out) HB5.out) HB6.out) HB7.out) HB8.out) HB9.out) HB10.out) HB11.out) HB12.out) HB13.out) HB14.out) HB15.out) HB16.out) HB17.out) HB18.out) HB19.out) | apply pw_below_drewN | apply below_drew | apply below_alloc))) HBL.out HD4.out).mono ?_)
            rintro e w20 ⟨v8, rfl, hr, hb⟩
            have HB20 := Aside0.mk (show Below w19.heap.size w19 w20 from lw_then (by repeat (first | exact (Below.refl _ _) | apply pw_below_drewN | apply below_drew | apply below_alloc)) hb)
            obtain ⟨Av8, cv8, rfl⟩ := Kd.R_slice hr
            have Hv8 := Aside0.mk (Kd.R_reads' hr)
            clear hr
            clear hb
            go_wp2_with (first | ((with_reducible refine gate_dst (N := 45) rfl ?_); refine box_event ?hg (N := 45) ?hd (cs := #[.int .i64 0, .int .i64 0]) (t := 25) ?hr ?_; (case hd => rfl); (case hg => rfl); (case hr => first | (go_simp; done) | (go_simp; rfl)); intro gb hg w21 hbox hb; have HB21 := Aside0.mk (show Below w20.heap.size w20 w21 from lw_then (by repeat (first | exact (Below.refl _ _) | apply pw_below_drewN | apply below_drew | apply below_alloc)) hb); have BK1 := Aside0.mk hbox; have GE1 := Aside0.mk (show w20.heap.size ≤ gb from by rw [hg]; exact Nat.le_refl _); clear hb hbox hg) | ((with_reducible refine gate_dst (N := 46) rfl ?_); refine box_event ?hg (N := 46) ?hd (cs := #[.int .i64 0, .int .i64 0]) (t := 25) ?hr ?_; (case hd => rfl); (case hg => rfl); (case hr => first | (go_simp; done) | (go_simp; rfl)); intro gc hg w22 hbox hb; have HB22 := Aside0.mk (show Below w21.heap.size w21 w22 from lw_then (by repeat (first | exact (Below.refl _ _) | apply pw_below_drewN | apply below_drew | apply below_alloc)) hb); have BK2 := Aside0.mk hbox; have GE2 := Aside0.mk (show w21.heap.size ≤ gc from by rw [hg]; exact Nat.le_refl _); have BK3 := Aside0.mk (blk_below BK1.out HB22.out); have HNE := Aside0.mk (show gb ≠ gc from by have h1_ := blk_lt BK1.out; have h2_ := GE2.out; omega); have hne1 := HNE.out; have hne2 := HNE.out.symm; have hcgb0 : w22.cell? ⟨gb, 0, none⟩ = some (.int .i64 0) := (blk_cell BK3.out 0).trans rfl; have hfzgb0 := blk_frozen BK3.out 0; have hcgb1 : w22.cell? ⟨gb, 1, none⟩ = some (.int .i64 0) := (blk_cell BK3.out 1).trans rfl; have hfzgb1 := blk_frozen BK3.out 1; have hcgc0 : w22.cell? ⟨gc, 0, none⟩ = some (.int .i64 0) := (blk_cell BK2.out 0).trans rfl; have hfzgc0 := blk_frozen BK2.out 0; have hcgc1 : w22.cell? ⟨gc, 1, none⟩ = some (.int .i64 0) := (blk_cell BK2.out 1).trans rfl; have hfzgc1 := blk_frozen BK2.out 1; clear hb hbox hg))
            go_wp2_with fail
            obtain ⟨w23, hwk⟩ : ∃ x_ : World, x_ = ((((w22.setCell ⟨gb, 0, none⟩ (.int .i64 xa)).setCell ⟨gb, 1, none⟩ (.int .i64 xb)).setCell ⟨gc, 0, none⟩ (.int .i64 ya)).setCell ⟨gc, 1, none⟩ (.int .i64 yb)) := ⟨_, rfl⟩
            rw [← hwk]
            have hb1 : w23.heap[gb]? = some (.cells #[.int .i64 xa, .int .i64 xb] 25 (0, 0)) := by rw [hwk]; exact blk_far (blk_far (blk_put (blk_put BK3.out 0 _ rfl) 1 _ rfl) HNE.out _) HNE.out _
            have hb2 : w23.heap[gc]? = some (.cells #[.int .i64 ya, .int .i64 yb] 25 (0, 0)) := by rw [hwk]; exact blk_put (blk_put (blk_far (blk_far BK2.out HNE.out.symm _) HNE.out.symm _) 0 _ rfl) 1 _ rfl
            have HB23 := Aside0.mk (show Below w20.heap.size w20 w23 from by rw [hwk]; exact below_set (below_set (below_set (below_set (lw_then HB21.out HB22.out) GE1.out) GE1.out) (Nat.le_trans HB21.out.size GE2.out)) (Nat.le_trans HB21.out.size GE2.out))
            have gbc0_23 : w23.cell? ⟨gb, 0, none⟩ = some (.int .i64 xa) := (blk_cell hb1 0).trans rfl
            have gbc1_23 : w23.cell? ⟨gb, 1, none⟩ = some (.int .i64 xb) := (blk_cell hb1 1).trans rfl
            have gcc0_23 : w23.cell? ⟨gc, 0, none⟩ = some (.int .i64 ya) := (blk_cell hb2 0).trans rfl
            have gcc1_23 : w23.cell? ⟨gc, 1, none⟩ = some (.int .i64 yb) := (blk_cell hb2 1).trans rfl
            clear hwk hb1 hb2 hne1 hne2 hcgb0 hfzgb0 hcgb1 hfzgb1 hcgc0 hfzgc0 hcgc1 hfzgc1
            (refine (impl_KeepsBoth.calls kq xa xb ya yb Av8 cv8 V _ _ _ (Kd.C_below Hv8.out.2.2 (by repeat (first | exact HB23.out | apply pw_below_drewN | apply below_drew | apply below_alloc))) Hv8.out.2.1 HI6.out).mono ?_)
            rintro e w24 ⟨rfl, hb⟩
            have HB24 := Aside0.mk (show Below w23.heap.size w23 w24 from lw_then (by repeat (first | exact (Below.refl _ _) | apply pw_below_drewN | apply below_drew | apply below_alloc)) hb)
            have gbc0_24 := pw_cell_below HB24.out gbc0_23
            clear gbc0_23
            have gbc1_24 := pw_cell_below HB24.out gbc1_23
            clear gbc1_23
            have gcc0_24 := pw_cell_below HB24.out gcc0_23
            clear gcc0_23
            have gcc1_24 := pw_cell_below HB24.out gcc1_23
            clear gcc1_23
            clear hb
            go_wp2_with fail
            (refine (spec_KeepsBoth.calls kq xa xb ya yb Av8 cv8 V _ _ _ (Kd.C_below Hv8.out.2.2 (by repeat (first | exact (lw_then HB23.out HB24.out) | apply pw_below_drewN | apply below_drew | apply below_alloc))) Hv8.out.2.1 HS6.out).mono ?_)
            rintro e w25 ⟨rfl, hb⟩
            have HB25 := Aside0.mk (show Below w24.heap.size w24 w25 from lw_then (by repeat (first | exact (Below.refl _ _) | apply pw_below_drewN | apply below_drew | apply below_alloc)) hb)
            have gbc0_25 := pw_cell_below HB25.out gbc0_24
            clear gbc0_24
            have gbc1_25 := pw_cell_below HB25.out gbc1_24
            clear gbc1_24
            have gcc0_25 := pw_cell_below HB25.out gcc0_24
            clear gcc0_24
            have gcc1_25 := pw_cell_below HB25.out gcc1_24
            clear gcc1_24
            clear hb
            go_upto_if 381 with (fail)
            cases nine
            focus
              go_wp2_with fail
              go_ret
              exact ⟨rfl, (by repeat (first | exact (lw_then (lw_then (lw_then (lw_then (lw_then (lw_then (lw_then (lw_then (lw_then (lw_then (lw_then (lw_then (lw_then (lw_then (lw_then (lw_then (lw_then (lw_then (lw_then (lw_then (lw_then HB1.out HB3.out) HB4.out) HB5.out) HB6.out) HB7.out) HB8.out) HB9.out) HB10.out) HB11.out) HB12.out) HB13.out) HB14.out) HB15.out) HB16.out) HB17.out) HB18.out) HB19.out) HB20.out) HB23.out) HB24.out) HB25.out) | apply pw_below_drewN | apply below_drew | apply below_alloc))⟩
            focus
              obtain rfl := (HN.out (by trivial)).2.2
              go_wp2_with fail
              (refine (impl_KeepsBucket.calls kq xa xb Av8 cv8 V _ _ _ (Kd.C_below Hv8.out.2.2 (by repeat (first | exact (lw_then (lw_then HB23.out HB24.out) HB25.out) | apply pw_below_drewN | apply below_drew | apply below_alloc))) Hv8.out.2.1 (HN.out (by trivial)).1).mono ?_)
              rintro e w26 ⟨rfl, hb⟩
              have HB26 := Aside0.mk (show Below w25.heap.size w25 w26 from lw_then (by repeat (first | exact (Below.refl _ _) | apply pw_below_drewN | apply below_drew | apply below_alloc)) hb)
              have gbc0_26 := pw_cell_below HB26.out gbc0_25
              clear gbc0_25
              have gbc1_26 := pw_cell_below HB26.out gbc1_25
              clear gbc1_25
              have gcc0_26 := pw_cell_below HB26.out gcc0_25
              clear gcc0_25
              have gcc1_26 := pw_cell_below HB26.out gcc1_25
              clear gcc1_25
              clear hb
              go_wp2_with fail
              (refine (impl_KeepsBucket.calls kq ya yb Av8 cv8 V _ _ _ (Kd.C_below Hv8.out.2.2 (by repeat (first | exact (lw_then (lw_then (lw_then HB23.out HB24.out) HB25.out) HB26.out) | apply pw_below_drewN | apply below_drew | apply below_alloc))) Hv8.out.2.1 (HN.out (by trivial)).2.1).mono ?_)
              rintro e w27 ⟨rfl, hb⟩
              have HB27 := Aside0.mk (show Below w26.heap.size w26 w27 from lw_then (by repeat (first | exact (Below.refl _ _) | apply pw_below_drewN | apply below_drew | apply below_alloc)) hb)
              have gbc0_27 := pw_cell_below HB27.out gbc0_26
              clear gbc0_26
              have gbc1_27 := pw_cell_below HB27.out gbc1_26
              clear gbc1_26
              have gcc0_27 := pw_cell_below HB27.out gcc0_26
              clear gcc0_26
              have gcc1_27 := pw_cell_below HB27.out gcc1_26
              clear gcc1_26
              clear hb
              cases ka <;> cases kb
              all_goals (go_wp2_with fail; go_ret; exact ⟨rfl, (by repeat (first | exact (lw_then (lw_then (lw_then (lw_then (lw_then (lw_then (lw_then (lw_then (lw_then (lw_then (lw_then (lw_then (lw_then (lw_then (lw_then (lw_then (lw_then (lw_then (lw_then (lw_then (lw_then (lw_then (lw_then HB1.out HB3.out) HB4.out) HB5.out) HB6.out) HB7.out) HB8.out) HB9.out) HB10.out) HB11.out) HB12.out) HB13.out) HB14.out) HB15.out) HB16.out) HB17.out) HB18.out) HB19.out) HB20.out) HB23.out) HB24.out) HB25.out) HB26.out) HB27.out) | apply pw_below_drewN | apply below_drew | apply below_alloc))⟩)
end Go.Proofs.Ythecknnmfghilaa.PA
