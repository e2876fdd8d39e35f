/- The law on RotationsOf comes to true: it is walked along the one way that its calls' results leave; no condition but that the lists are no longer than memory lets them be. -/
import Derived.Test.YtoeddkfbhjmbmaaPureG
import Derived.Test.YtoeddkfbhjmbmaaPureSE
import Derived.Test.YtoeddkfbhjmbmaaPureSZ
import Derived.Test.YtoeddkfbhjmbmaaLaw
import Derived.Test.YtoeddkfbhjmbmaaPA50
import Derived.Test.YtoeddkfbhjmbmaaPA43
namespace Go.Proofs.Ytoeddkfbhjmbmaa.PA
open Go.RowKit Go.Proofs.YtoeddkfbhjmbmaaW.PrintWords Go.Proofs.YtoeddkfbhjmbmaaW.PrintLast Go.Proofs.YtoeddkfbhjmbmaaW.PrintMore
set_option linter.unusedVariables false
set_option linter.unusedSimpArgs false
def rotationsOf.T14 : Bool × List (List Nat × List Nat) := (true, [([], []), ([], []), ([1], [1]), ([0, 2, 2], [0, 2]), ([3], [3])])
def rotationsOf.B14 : List Nat := [0, 0, 2, 7, 15]
theorem rotationsOf.tab14 : rtab .any (opsOf Try.f11 14) = rotationsOf.T14 := by kernel_rfl
theorem rotationsOf.bits14 : waitsOk rotationsOf.T14.2 rotationsOf.B14 = true := by kernel_rfl
set_option maxHeartbeats 8000000 in
set_option maxRecDepth 100000 in
theorem rotationsOf_walk (t w : Int) (A : Option Addr) (c : Nat) (l : List Int) (B : Option Addr) (e : Nat) (ws : List (List Int)) (W : World) (h : Kd.C (Kd.int .i64) W A l.length l) (hl : l.length ≤ c) (g : Kd.C (Kd.slice 3 (Kd.int .i64)) W B ws.length ws) (hg : ws.length ≤ e)
    (R : List Int) (b : Bool) (kq : Nat) (z1 z2 m1 m2 S : Int) (xs : List Int) (ys : List (List Int))
    (hz1 : laws_szTimedRing.f t w l 1048576 = some z1) (hz10 : 0 ≤ z1) (hz2 : laws_szIntSS.f kq ws z1 = some z2) (hz20 : 0 ≤ z2) (hto : laws_toTimedRing.f kq t w l = some (t, w, l)) (hts : laws_toIntSS.f kq ws = some ws)
    (hs : spec_RotationsOf.f kq t w l ws = some (R, b)) (hi : impl_RotationsOf.f kq t w l ws = some (R, b)) (heq : laws_eqIntS.f kq R R = some true) (her : laws_eqTimedRing.f kq t w l t w l = some true) (hew : laws_eqIntSS.f kq ws ws = some true)
    (hmk : laws_markTimedRing.f kq t w l 1 = some (m1, xs)) (hmw : laws_markIntSS.f kq ws m1 = some (m2, ys)) (hm0 : 0 ≤ m2) (hS0 : 0 ≤ S) (hms : laws_markIntS.f kq R 1 = some (1 + S, marked 1 R.length)) (hhe : laws_heldIntS.f kq (marked 1 R.length) 1 = some (1 + S)) :
    Calls Try.prog 11 #[.agg #[.int .i64 t, .int .i64 w, .slice A l.length c], .slice B ws.length e] W fun e W' => e = .returned (.bool true) ∧ Below W.heap.size W W' := by
  have HA := Aside0.mk h
  have HL := Aside0.mk hl
  have HBw := Aside0.mk g
  have HG := Aside0.mk hg
  have HZ1 := Aside0.mk hz1
  have HZ2 := Aside0.mk hz2
  have HTo := Aside0.mk hto
  have HTS := Aside0.mk hts
  have HS := Aside0.mk hs
  have HI := Aside0.mk hi
  have HEq := Aside0.mk heq
  have HEr := Aside0.mk her
  have HEw := Aside0.mk hew
  have HMk := Aside0.mk hmk
  have HMw := Aside0.mk hmw
  have HMs := Aside0.mk hms
  have HHe := Aside0.mk hhe
  have HML := Aside0.mk (marked_length 1 R.length)
  clear h hl g hg hz1 hz2 hto hts hs hi heq her hew hmk hmw hms hhe
  have d1 : decide (z1 < 0) = false := decide_eq_false (by omega)
  have d2 : decide (z2 < 0) = false := decide_eq_false (by omega)
  have d3 : decide (m2 < 0) = false := decide_eq_false (by omega)
  have d4 : decide (1 + S < 0) = false := decide_eq_false (by omega)
  clear hz10 hz20 hm0 hS0
  go_enter Try.func11, Try.ntmps11
  go_wp2_with ((with_reducible refine gate_dst (N := 2) rfl ?_); refine box_event ?hg (N := 2) ?hd (cs := #[.int .i64 t, .int .i64 w, .slice A l.length c]) (t := 24) ?hr ?_; (case hd => rfl); (case hg => rfl); (case hr => first | (go_simp; done) | (go_simp; rfl)); intro ga hga w1 hbox hb; have HB1 := Aside0.mk (show Below W.heap.size W w1 from lw_then (by repeat (first | exact (Below.refl _ _) | apply pw_below_drewN | apply below_drew | apply below_alloc)) hb); have gac0 : w1.cell? ⟨ga, 0, none⟩ = some (.int .i64 t) := (blk_cell hbox 0).trans rfl; have gac1 : w1.cell? ⟨ga, 1, none⟩ = some (.int .i64 w) := (blk_cell hbox 1).trans rfl; have gac2 : w1.cell? ⟨ga, 2, none⟩ = some (.slice A l.length c) := (blk_cell hbox 2).trans rfl; clear hb hbox hga; have HXgac0 := Aside0.mk gac0; have HXgac1 := Aside0.mk gac1; have HXgac2 := Aside0.mk gac2)
  go_wp2_with fail
  (refine (laws_szTimedRing.calls t w A c l 1048576 _ _ (Kd.C_below HA.out (by repeat (first | exact HB1.out | apply pw_below_drewN | apply below_drew | apply below_alloc))) HL.out HZ1.out).mono ?_)
  rintro e w2 ⟨rfl, hb⟩
  have HB2 := Aside0.mk (show Below w1.heap.size w1 w2 from lw_then (by repeat (first | exact (Below.refl _ _) | apply pw_below_drewN | apply below_drew | apply below_alloc)) hb)
  have gac0_2 := pw_cell_below HB2.out gac0
  clear gac0
  have gac1_2 := pw_cell_below HB2.out gac1
  clear gac1
  have gac2_2 := pw_cell_below HB2.out gac2
  clear gac2
  clear hb
  go_wp2_with fail
  (refine (laws_szIntSS.calls kq B e ws z1 _ _ (Kd.C_below HBw.out (by repeat (first | exact (lw_then HB1.out HB2.out) | apply pw_below_drewN | apply below_drew | apply below_alloc))) HG.out HZ2.out).mono ?_)
  rintro e w' ⟨rfl, ⟨nd0, rfl⟩⟩
  go_wp2_with fail
  (refine (laws_toTimedRing.calls kq t w A c l _ _ _ _ (Kd.C_below HA.out (by repeat (first | exact (lw_then HB1.out HB2.out) | apply pw_below_drewN | apply below_drew | apply below_alloc))) HL.out HTo.out).mono ?_)
  rintro e w3 ⟨u1, rfl, hr, hb⟩
  have HB3 := Aside0.mk (show Below w2.heap.size w2 w3 from lw_then (by repeat (first | exact (Below.refl _ _) | apply pw_below_drewN | apply below_drew | apply below_alloc)) hb)
  have gac0_3 := pw_cell_below HB3.out gac0_2
  clear gac0_2
  have gac1_3 := pw_cell_below HB3.out gac1_2
  clear gac1_2
  have gac2_3 := pw_cell_below HB3.out gac2_2
  clear gac2_2
  obtain ⟨Au1, cu1, rfl⟩ := Kd.R_slice hr
  have Hu1 := Aside0.mk hr
  clear hr
  clear hb
  go_wp2_with fail
  (refine (laws_toIntSS.calls kq B e ws _ _ (Kd.C_below HBw.out (by repeat (first | exact (lw_then (lw_then HB1.out HB2.out) HB3.out) | apply pw_below_drewN | apply below_drew | apply below_alloc))) HG.out HTS.out).mono ?_)
  rintro e w4 ⟨u2, rfl, hr, hb⟩
  have HB4 := Aside0.mk (show Below w3.heap.size w3 w4 from lw_then (by repeat (first | exact (Below.refl _ _) | apply pw_below_drewN | apply below_drew | apply below_alloc)) hb)
  have gac0_4 := pw_cell_below HB4.out gac0_3
  clear gac0_3
  have gac1_4 := pw_cell_below HB4.out gac1_3
  clear gac1_3
  have gac2_4 := pw_cell_below HB4.out gac2_3
  clear gac2_3
  obtain ⟨Au2, cu2, rfl⟩ := Kd.S_slice hr
  have Hu2 := Aside0.mk (Kd.S_bound hr)
  clear hr
  clear hb
  go_wp2_with fail
  (refine (spec_RotationsOf.calls kq t w Au1 cu1 l Au2 cu2 ws R b _ (Kd.C_below (Kd.R_reads' Hu1.out).2.2 (by repeat (first | exact HB4.out | apply pw_below_drewN | apply below_drew | apply below_alloc))) (Kd.R_reads' Hu1.out).2.1 (Kd.C_below (Kd.S_reads' Hu2.out).2.2 (by repeat (first | exact (Below.refl _ _) | apply pw_below_drewN | apply below_drew | apply below_alloc))) (Kd.S_reads' Hu2.out).2.1 HS.out).mono ?_)
  rintro e w5 ⟨u3, rfl, hr, hb⟩
  have HB5 := Aside0.mk (show Below w4.heap.size w4 w5 from lw_then (by repeat (first | exact (Below.refl _ _) | apply pw_below_drewN | apply below_drew | apply below_alloc)) hb)
  have gac0_5 := pw_cell_below HB5.out gac0_4
  clear gac0_4
  have gac1_5 := pw_cell_below HB5.out gac1_4
  clear gac1_4
  have gac2_5 := pw_cell_below HB5.out gac2_4
  clear gac2_4
  obtain ⟨Au3, cu3, rfl⟩ := Kd.R_slice hr
  have Hu3 := Aside0.mk (Kd.R_bound hr)
  clear hr
  clear hb
  go_wp2_with fail
  (refine (laws_toTimedRing.calls kq t w A c l _ _ _ _ (Kd.C_below HA.out (by repeat (first | exact (lw_then (lw_then (lw_then (lw_then HB1.out HB2.out) HB3.out) HB4.out) HB5.out) | apply pw_below_drewN | apply below_drew | apply below_alloc))) HL.out HTo.out).mono ?_)
  rintro e w6 ⟨v1, rfl, hr, hb⟩
  have HB6 := Aside0.mk (show Below w5.heap.size w5 w6 from lw_then (by repeat (first | exact (Below.refl _ _) | apply pw_below_drewN | apply below_drew | apply below_alloc)) hb)
  have gac0_6 := pw_cell_below HB6.out gac0_5
  clear gac0_5
  have gac1_6 := pw_cell_below HB6.out gac1_5
  clear gac1_5
  have gac2_6 := pw_cell_below HB6.out gac2_5
  clear gac2_5
  obtain ⟨Av1, cv1, rfl⟩ := Kd.R_slice hr
  have Hv1 := Aside0.mk hr
  clear hr
  clear hb
  go_wp2_with (have HCgac0_6 := Aside0.mk gac0_6; have HCgac1_6 := Aside0.mk gac1_6; have HCgac2_6 := Aside0.mk gac2_6; (with_reducible refine gate_dst (N := 8) rfl ?_); refine box_event ?hg (N := 8) ?hd (cs := #[.int .i64 0, .int .i64 0, .slice none 0 0]) (t := 28) ?hr ?_; (case hd => rfl); (case hg => rfl); (case hr => first | (go_simp; done) | (go_simp; rfl)); intro gx hgx w7 hbox hb; have HB7 := Aside0.mk (show Below w6.heap.size w6 w7 from lw_then (by repeat (first | exact (Below.refl _ _) | apply pw_below_drewN | apply below_drew | apply below_alloc)) hb); have gac0_7 := pw_cell_below HB7.out gac0_6; clear gac0_6; have gac1_7 := pw_cell_below HB7.out gac1_6; clear gac1_6; have gac2_7 := pw_cell_below HB7.out gac2_6; clear gac2_6; have gxc0 : w7.cell? ⟨gx, 0, none⟩ = some (.int .i64 0) := (blk_cell hbox 0).trans rfl; have gxc1 : w7.cell? ⟨gx, 1, none⟩ = some (.int .i64 0) := (blk_cell hbox 1).trans rfl; have gxc2 : w7.cell? ⟨gx, 2, none⟩ = some (.slice none 0 0) := (blk_cell hbox 2).trans rfl; have BKgx := Aside0.mk hbox; have GEgx := Aside0.mk (show w6.heap.size ≤ gx from by rw [hgx]; exact Nat.le_refl _); have hfzgx0 := blk_frozen hbox 0; have hfzgx1 := blk_frozen hbox 1; have hfzgx2 := blk_frozen hbox 2; clear hb hbox hgx)
  go_wp2_with fail
  obtain ⟨w8, hwk⟩ : ∃ x_ : World, x_ = (((w7.setCell ⟨gx, 0, none⟩ (.int .i64 t)).setCell ⟨gx, 1, none⟩ (.int .i64 w)).setCell ⟨gx, 2, none⟩ (.slice Av1 l.length cv1)) := ⟨_, rfl⟩
  rw [← hwk]
  have hbk : w8.heap[gx]? = some (.cells #[.int .i64 t, .int .i64 w, .slice Av1 l.length cv1] 28 (0, 0)) := by rw [hwk]; exact (blk_put (blk_put (blk_put BKgx.out 0 _ rfl) 1 _ rfl) 2 _ rfl)
  have HB8 := Aside0.mk (show Below w6.heap.size w6 w8 from by rw [hwk]; exact (below_set (below_set (below_set HB7.out GEgx.out) GEgx.out) GEgx.out))
  have gac0_8 := show w8.cell? _ = some _ from pw_cell_below HB8.out HCgac0_6.out
  clear gac0_7
  have gac1_8 := show w8.cell? _ = some _ from pw_cell_below HB8.out HCgac1_6.out
  clear gac1_7
  have gac2_8 := show w8.cell? _ = some _ from pw_cell_below HB8.out HCgac2_6.out
  clear gac2_7
  have gxc0_8 : w8.cell? ⟨gx, 0, none⟩ = some (.int .i64 t) := (blk_cell hbk 0).trans rfl
  have gxc1_8 : w8.cell? ⟨gx, 1, none⟩ = some (.int .i64 w) := (blk_cell hbk 1).trans rfl
  have gxc2_8 : w8.cell? ⟨gx, 2, none⟩ = some (.slice Av1 l.length cv1) := (blk_cell hbk 2).trans rfl
  clear hwk hbk gxc0 gxc1 gxc2 hfzgx0 hfzgx1 hfzgx2
  (refine (laws_toIntSS.calls kq B e ws _ _ (Kd.C_below HBw.out (by repeat (first | exact (lw_then (lw_then (lw_then (lw_then (lw_then (lw_then HB1.out HB2.out) HB3.out) HB4.out) HB5.out) HB6.out) HB8.out) | apply pw_below_drewN | apply below_drew | apply below_alloc))) HG.out HTS.out).mono ?_)
  rintro e w9 ⟨v2, rfl, hr, hb⟩
  have HB9 := Aside0.mk (show Below w8.heap.size w8 w9 from lw_then (by repeat (first | exact (Below.refl _ _) | apply pw_below_drewN | apply below_drew | apply below_alloc)) hb)
  have gac0_9 := pw_cell_below HB9.out gac0_8
  clear gac0_8
  have gac1_9 := pw_cell_below HB9.out gac1_8
  clear gac1_8
  have gac2_9 := pw_cell_below HB9.out gac2_8
  clear gac2_8
  have gxc0_9 := pw_cell_below HB9.out gxc0_8
  clear gxc0_8
  have gxc1_9 := pw_cell_below HB9.out gxc1_8
  clear gxc1_8
  have gxc2_9 := pw_cell_below HB9.out gxc2_8
  clear gxc2_8
  obtain ⟨Av2, cv2, rfl⟩ := Kd.S_slice hr
  have Hv2 := Aside0.mk (Kd.S_bound hr)
  clear hr
  clear hb
  go_wp2_with fail
  (refine (impl_RotationsOf.calls kq t w Av1 cv1 l Av2 cv2 ws R b _ (Kd.C_below (Kd.R_reads' Hv1.out).2.2 (by repeat (first | exact (lw_then HB8.out HB9.out) | apply pw_below_drewN | apply below_drew | apply below_alloc))) (Kd.R_reads' Hv1.out).2.1 (Kd.C_below (Kd.S_reads' Hv2.out).2.2 (by repeat (first | exact (Below.refl _ _) | apply pw_below_drewN | apply below_drew | apply below_alloc))) (Kd.S_reads' Hv2.out).2.1 HI.out).mono ?_)
  rintro e w10 ⟨v3, rfl, hr, hb⟩
  have HB10 := Aside0.mk (show Below w9.heap.size w9 w10 from lw_then (by repeat (first | exact (Below.refl _ _) | apply pw_below_drewN | apply below_drew | apply below_alloc)) hb)
  have gac0_10 := pw_cell_below HB10.out gac0_9
  clear gac0_9
  have gac1_10 := pw_cell_below HB10.out gac1_9
  clear gac1_9
  have gac2_10 := pw_cell_below HB10.out gac2_9
  clear gac2_9
  have gxc0_10 := pw_cell_below HB10.out gxc0_9
  clear gxc0_9
  have gxc1_10 := pw_cell_below HB10.out gxc1_9
  clear gxc1_9
  have gxc2_10 := pw_cell_below HB10.out gxc2_9
  clear gxc2_9
  obtain ⟨Av3, cv3, rfl⟩ := Kd.R_slice hr
  have Hv3 := Aside0.mk (Kd.R_bound hr)
  clear hr
  clear hb
  go_wp2_with fail
  (refine (laws_eqIntS.calls kq Av3 cv3 R Au3 cu3 R true _ (Kd.C_below (Kd.R_reads' Hv3.out).2.2 (by repeat (first | exact (Below.refl _ _) | apply pw_below_drewN | apply below_drew | apply below_alloc))) (Kd.R_reads' Hv3.out).2.1 (Kd.C_below (Kd.R_reads' Hu3.out).2.2 (by repeat (first | exact (lw_then (lw_then (lw_then HB6.out HB8.out) HB9.out) HB10.out) | apply pw_below_drewN | apply below_drew | apply below_alloc))) (Kd.R_reads' Hu3.out).2.1 HEq.out).mono ?_)
  rintro e w' ⟨rfl, ⟨nd1, rfl⟩⟩
  go_wp2_with fail
  have HB11 := Aside0.mk (show Below w10.heap.size w10 (w10.drewN nd1).drew from (by repeat (first | exact (Below.refl _ _) | apply pw_below_drewN | apply below_drew | apply below_alloc)))
  have gac0_11 := pw_cell_below HB11.out gac0_10
  clear gac0_10
  have gac1_11 := pw_cell_below HB11.out gac1_10
  clear gac1_10
  have gac2_11 := pw_cell_below HB11.out gac2_10
  clear gac2_10
  have gxc0_11 := pw_cell_below HB11.out gxc0_10
  clear gxc0_10
  have gxc1_11 := pw_cell_below HB11.out gxc1_10
  clear gxc1_10
  have gxc2_11 := pw_cell_below HB11.out gxc2_10
  clear gxc2_10
  refine start_ (n := 5) (S := fun w' => w'.cell? ⟨ga, 0, none⟩ = some (.int .i64 t) ∧ w'.cell? ⟨ga, 1, none⟩ = some (.int .i64 w) ∧ w'.cell? ⟨ga, 2, none⟩ = some (.slice A l.length c) ∧ w'.cell? ⟨gx, 0, none⟩ = some (.int .i64 t) ∧ w'.cell? ⟨gx, 1, none⟩ = some (.int .i64 w) ∧ w'.cell? ⟨gx, 2, none⟩ = some (.slice Av1 l.length cv1)) (ds := []) #[false, false, false, false, false] (by kernel_rfl) rfl rfl ⟨gac0_11, gac1_11, gac2_11, gxc0_11, gxc1_11, gxc2_11⟩ (fun hHeld => ?_)
  refine with_tabW rotationsOf.tab14 rotationsOf.bits14 (fun HT_ HW_ => ?_)
  generalize (w10.drewN nd1).drew = w11 at HB11 gac0_11 gac1_11 gac2_11 gxc0_11 gxc1_11 gxc2_11 hHeld ⊢
  refine take_ (i := 0) (N := some 54) (v := ?_) (a' := ?_) #[true, false, false, false, false] rfl rfl (take_ofW HT_.out HW_.out (by kernel_rfl)) (fun _ _ _ h => h) (Or.inl ⟨by rfl, ?_⟩) hHeld ?_ ?_
  rotate_left
  · rintro w' ⟨s0, s1, s2, s3, s4, s5⟩
    go_simp
    with_reducible rfl
  rotate_left
  · simp only [Act.put, List.setIfInBounds_toArray, List.set_cons_zero, List.set_cons_succ, i64_w, i32_w]
    rfl
  refine take_ (i := 1) (N := some 55) (v := ?_) (a' := ?_) #[true, true, false, false, false] rfl rfl (take_ofW HT_.out HW_.out (by kernel_rfl)) (fun _ _ _ h => h) (Or.inl ⟨by rfl, ?_⟩) hHeld ?_ ?_
  rotate_left
  · rintro w' ⟨s0, s1, s2, s3, s4, s5⟩
    go_simp
    with_reducible rfl
  rotate_left
  · simp only [Act.put, List.setIfInBounds_toArray, List.set_cons_zero, List.set_cons_succ, i64_w, i32_w]
    rfl
  refine one_ (i := 2) (N := some 56) #[true, true, true, false, false] rfl rfl (one_of HT_.out (by kernel_rfl)) (by decide) (fun K hK => ?_)
  refine goes_ Try.func16 (by kernel_rfl) rfl #[.agg #[.int .i64 t, .int .i64 w, .slice A l.length c]] (by rfl) rfl rfl (by simp only [List.map_toArray, List.map_cons, List.map_nil]; rfl) ?_
  with_reducible refine (laws_toTimedRing.calls kq t w A c l _ _ _ _ (Kd.C_below HA.out (by repeat (first | exact (lw_then (lw_then (lw_then (lw_then (lw_then (lw_then (lw_then (lw_then (lw_then HB1.out HB2.out) HB3.out) HB4.out) HB5.out) HB6.out) HB8.out) HB9.out) HB10.out) HB11.out) | apply pw_below_drewN | apply below_drew | apply below_alloc))) HL.out HTo.out).mono ?_
  rintro e w12 ⟨v4, rfl, hr, hb⟩
  refine ⟨_, rfl, ?_⟩
  have HB12 := Aside0.mk (show Below w11.heap.size w11 w12 from lw_then (by repeat (first | exact (Below.refl _ _) | apply pw_below_drewN | apply below_drew | apply below_alloc)) hb)
  have gac0_12 := pw_cell_below HB12.out gac0_11
  clear gac0_11
  have gac1_12 := pw_cell_below HB12.out gac1_11
  clear gac1_11
  have gac2_12 := pw_cell_below HB12.out gac2_11
  clear gac2_11
  have gxc0_12 := pw_cell_below HB12.out gxc0_11
  clear gxc0_11
  have gxc1_12 := pw_cell_below HB12.out gxc1_11
  clear gxc1_11
  have gxc2_12 := pw_cell_below HB12.out gxc2_11
  clear gxc2_11
  obtain ⟨Av4, cv4, rfl⟩ := Kd.R_slice hr
  have Hv4 := Aside0.mk hr
  clear hr
  clear hb
  refine hK.out _ _ ⟨gac0_12, gac1_12, gac2_12, gxc0_12, gxc1_12, gxc2_12⟩ (fun hHeld => ?_)
  clear hK K
  refine norm_ (a' := ?_) ?_ ?_
  rotate_left
  · show Act.put _ (some 56) _ = _
    simp only [Act.put, List.setIfInBounds_toArray, List.set_cons_zero, List.set_cons_succ, i64_w, i32_w]
    rfl
  refine one_ (i := 3) (N := some 57) #[true, true, true, true, false] rfl rfl (one_of HT_.out (by kernel_rfl)) (by decide) (fun K hK => ?_)
  refine goes_ Try.func18 (by kernel_rfl) rfl #[.agg #[.int .i64 t, .int .i64 w, .slice Av1 l.length cv1], .agg #[.int .i64 t, .int .i64 w, .slice Av4 l.length cv4]] (by rfl) rfl rfl (by simp only [List.map_toArray, List.map_cons, List.map_nil]; rfl) ?_
  with_reducible refine (laws_eqTimedRing.calls kq t w Av1 cv1 l t w Av4 cv4 l true _ (Kd.C_below (Kd.R_reads' Hv1.out).2.2 (by repeat (first | exact (lw_then (lw_then (lw_then (lw_then HB8.out HB9.out) HB10.out) HB11.out) HB12.out) | apply pw_below_drewN | apply below_drew | apply below_alloc))) (Kd.R_reads' Hv1.out).2.1 (Kd.C_below (Kd.R_reads' Hv4.out).2.2 (by repeat (first | exact (Below.refl _ _) | apply pw_below_drewN | apply below_drew | apply below_alloc))) (Kd.R_reads' Hv4.out).2.1 HEr.out).mono ?_
  rintro e w13 ⟨rfl, hb⟩
  refine ⟨_, rfl, ?_⟩
  have HB13 := Aside0.mk (show Below w12.heap.size w12 w13 from lw_then (by repeat (first | exact (Below.refl _ _) | apply pw_below_drewN | apply below_drew | apply below_alloc)) hb)
  have gac0_13 := pw_cell_below HB13.out gac0_12
  clear gac0_12
  have gac1_13 := pw_cell_below HB13.out gac1_12
  clear gac1_12
  have gac2_13 := pw_cell_below HB13.out gac2_12
  clear gac2_12
  have gxc0_13 := pw_cell_below HB13.out gxc0_12
  clear gxc0_12
  have gxc1_13 := pw_cell_below HB13.out gxc1_12
  clear gxc1_12
  have gxc2_13 := pw_cell_below HB13.out gxc2_12
  clear gxc2_12
  clear hb
  refine hK.out _ _ ⟨gac0_13, gac1_13, gac2_13, gxc0_13, gxc1_13, gxc2_13⟩ (fun hHeld => ?_)
  clear hK K
  refine norm_ (a' := ?_) ?_ ?_
  rotate_left
  · show Act.put _ (some 57) _ = _
    simp only [Act.put, List.setIfInBounds_toArray, List.set_cons_zero, List.set_cons_succ, i64_w, i32_w]
    rfl
  refine pure_ (i := 4) (N := some 58) (v := ?_) (a' := ?_) #[true, true, true, true, true] rfl rfl (any_of HT_.out (by kernel_rfl)) (fun _ _ _ h => h) (Or.inl ⟨by rfl, ?_⟩) ?_ ?_
  rotate_left
  · intro w'
    go_simp
    with_reducible rfl
  rotate_left
  · simp only [Act.put, List.setIfInBounds_toArray, List.set_cons_zero, List.set_cons_succ, i64_w, i32_w]
    rfl
  refine done_ (done_of HT_.out (by kernel_rfl)) ?_
  clear hHeld
  go_wp2_with fail
  (refine (laws_toIntSS.calls kq B e ws _ _ (Kd.C_below HBw.out (by repeat (first | exact (lw_then (lw_then (lw_then (lw_then (lw_then (lw_then (lw_then (lw_then (lw_then (lw_then (lw_then HB1.out HB2.out) HB3.out) HB4.out) HB5.out) HB6.out) HB8.out) HB9.out) HB10.out) HB11.out) HB12.out) HB13.out) | apply pw_below_drewN | apply below_drew | apply below_alloc))) HG.out HTS.out).mono ?_)
  rintro e w14 ⟨v5, rfl, hr, hb⟩
  have HB14 := Aside0.mk (show Below w13.heap.size w13 w14 from lw_then (by repeat (first | exact (Below.refl _ _) | apply pw_below_drewN | apply below_drew | apply below_alloc)) hb)
  have gac0_14 := pw_cell_below HB14.out gac0_13
  clear gac0_13
  have gac1_14 := pw_cell_below HB14.out gac1_13
  clear gac1_13
  have gac2_14 := pw_cell_below HB14.out gac2_13
  clear gac2_13
  have gxc0_14 := pw_cell_below HB14.out gxc0_13
  clear gxc0_13
  have gxc1_14 := pw_cell_below HB14.out gxc1_13
  clear gxc1_13
  have gxc2_14 := pw_cell_below HB14.out gxc2_13
  clear gxc2_13
  obtain ⟨Av5, cv5, rfl⟩ := Kd.S_slice hr
  have Hv5 := Aside0.mk (Kd.S_bound hr)
  clear hr
  clear hb
  go_wp2_with fail
  (refine (laws_eqIntSS.calls kq Av2 cv2 ws Av5 cv5 ws true _ (Kd.C_below (Kd.S_reads' Hv2.out).2.2 (by repeat (first | exact (lw_then (lw_then (lw_then (lw_then HB10.out HB11.out) HB12.out) HB13.out) HB14.out) | apply pw_below_drewN | apply below_drew | apply below_alloc))) (Kd.S_reads' Hv2.out).2.1 (Kd.C_below (Kd.S_reads' Hv5.out).2.2 (by repeat (first | exact (Below.refl _ _) | apply pw_below_drewN | apply below_drew | apply below_alloc))) (Kd.S_reads' Hv5.out).2.1 HEw.out).mono ?_)
  rintro e w' ⟨rfl, ⟨nd2, rfl⟩⟩
  go_wp2_with fail
  (refine (laws_markTimedRing.calls kq t w (fun k => w5.heap.size ≤ k ∧ k < w6.heap.size) _ l 1 _ _ w5 _ (by repeat (first | exact (lw_then (lw_then (lw_then (lw_then (lw_then (lw_then (lw_then HB6.out HB8.out) HB9.out) HB10.out) HB11.out) HB12.out) HB13.out) HB14.out) | apply pw_below_drewN | apply below_drew | apply below_alloc)) (by repeat (first | exact Kd.R_below (Kd.R_mono (Kd.R_bound Hv1.out) (fun k hk => ⟨hk.2.1, hk.2.2.1⟩)) (lw_then (lw_then (lw_then (lw_then (lw_then (lw_then HB8.out HB9.out) HB10.out) HB11.out) HB12.out) HB13.out) HB14.out) | apply Kd.R_drewN | apply Kd.R_drew)) HMk.out).mono ?_)
  rintro e w15 ⟨rfl, _, hb, hk⟩
  have HB15 := Aside0.mk hb
  have HK15 := Aside0.mk (show Kept w14 w15 (fun k => w5.heap.size ≤ k ∧ k < w6.heap.size) from hk)
  have Hm2 := Aside0.mk (Kd.S_kept (Kd.S_below (Kd.S_lower (Kd.S_mono Hv2.out (fun k hk => (⟨hk.2.1, hk.2.2.1⟩ : w8.heap.size ≤ k ∧ k < w9.heap.size))) (show w5.heap.size ≤ w8.heap.size from (lw_then HB6.out HB8.out).size)) (lw_then (lw_then (lw_then (lw_then HB10.out HB11.out) HB12.out) HB13.out) HB14.out)) HK15.out (fun k hk hs => by have h1_ := hs.2; have h2_ := hk.1; have h3_ := (show w6.heap.size ≤ w8.heap.size from HB8.out.size); omega))
  have Hm3 := Aside0.mk (Kd.R_kept (Kd.R_below (Kd.R_mono Hv3.out (fun k hk => (⟨hk.2.1, hk.2.2.1⟩ : w9.heap.size ≤ k ∧ k < w10.heap.size))) (lw_then (lw_then (lw_then HB11.out HB12.out) HB13.out) HB14.out)) HK15.out (fun k hk hs => by have h1_ := hs.2; have h2_ := hk.1; have h3_ := (show w6.heap.size ≤ w9.heap.size from (lw_then HB8.out HB9.out).size); omega))
  clear hb hk
  have gac0_15 := pw_cell_below (lw_then (lw_then (lw_then (lw_then HB2.out HB3.out) HB4.out) HB5.out) HB15.out) HXgac0.out
  clear gac0_14
  have gac1_15 := pw_cell_below (lw_then (lw_then (lw_then (lw_then HB2.out HB3.out) HB4.out) HB5.out) HB15.out) HXgac1.out
  clear gac1_14
  have gac2_15 := pw_cell_below (lw_then (lw_then (lw_then (lw_then HB2.out HB3.out) HB4.out) HB5.out) HB15.out) HXgac2.out
  clear gac2_14
  clear gxc0_14
  clear gxc1_14
  clear gxc2_14
  go_wp2_with fail
  (refine (laws_markIntSS.calls kq (fun k => w8.heap.size ≤ k ∧ k < w9.heap.size) _ ws m1 _ _ w5 _ (by repeat (first | exact HB15.out | apply pw_below_drewN | apply below_drew | apply below_alloc)) (by repeat (first | exact Hm2.out | apply Kd.S_drewN | apply Kd.S_drew)) HMw.out).mono ?_)
  rintro e w16 ⟨rfl, _, hb, hk⟩
  have HB16 := Aside0.mk hb
  have HK16 := Aside0.mk (show Kept w15 w16 (fun k => w8.heap.size ≤ k ∧ k < w9.heap.size) from hk)
  have Hm4 := Aside0.mk (Kd.R_kept (by repeat (first | exact Hm3.out | apply Kd.R_drewN | apply Kd.R_drew)) HK16.out (fun k hk hs => by have h1_ := hs.2; have h2_ := hk.1; omega))
  clear hb hk
  have gac0_16 := pw_cell_below (lw_then (lw_then (lw_then (lw_then HB2.out HB3.out) HB4.out) HB5.out) HB16.out) HXgac0.out
  clear gac0_15
  have gac1_16 := pw_cell_below (lw_then (lw_then (lw_then (lw_then HB2.out HB3.out) HB4.out) HB5.out) HB16.out) HXgac1.out
  clear gac1_15
  have gac2_16 := pw_cell_below (lw_then (lw_then (lw_then (lw_then HB2.out HB3.out) HB4.out) HB5.out) HB16.out) HXgac2.out
  clear gac2_15
  go_wp2_with fail
  (refine (laws_eqIntS.calls kq Av3 cv3 R Au3 cu3 R true _ (Kd.C_below (Kd.R_reads' Hm4.out).2.2 (by repeat (first | exact (Below.refl _ _) | apply pw_below_drewN | apply below_drew | apply below_alloc))) (Kd.R_reads' Hm4.out).2.1 (Kd.C_below (Kd.R_reads' Hu3.out).2.2 (by repeat (first | exact HB16.out | apply pw_below_drewN | apply below_drew | apply below_alloc))) (Kd.R_reads' Hu3.out).2.1 HEq.out).mono ?_)
  rintro e w' ⟨rfl, ⟨nd3, rfl⟩⟩
  go_wp2_with fail
  (refine (laws_markIntS.calls kq (fun k => w9.heap.size ≤ k ∧ k < w10.heap.size) _ R 1 _ _ w5 _ (by repeat (first | exact HB16.out | apply pw_below_drewN | apply below_drew | apply below_alloc)) (by repeat (first | exact Kd.R_lower Hm4.out (Nat.le_trans (lw_then (lw_then HB6.out HB8.out) HB9.out).size (Nat.le_refl _)) | apply Kd.R_drewN | apply Kd.R_drew)) HMs.out).mono ?_)
  rintro e w17 ⟨rfl, hs, hb, hk⟩
  have HB17 := Aside0.mk hb
  have Hh := Aside0.mk hs
  have Hhc := Aside0.mk (show Kd.C (Kd.int .i64) w17 Av3 R.length (marked 1 R.length) from by have h_ := (Kd.R_reads' hs).2.2; rw [marked_length] at h_; exact h_)
  clear hb hk hs
  have gac0_17 := pw_cell_below (lw_then (lw_then (lw_then (lw_then HB2.out HB3.out) HB4.out) HB5.out) HB17.out) HXgac0.out
  clear gac0_16
  have gac1_17 := pw_cell_below (lw_then (lw_then (lw_then (lw_then HB2.out HB3.out) HB4.out) HB5.out) HB17.out) HXgac1.out
  clear gac1_16
  have gac2_17 := pw_cell_below (lw_then (lw_then (lw_then (lw_then HB2.out HB3.out) HB4.out) HB5.out) HB17.out) HXgac2.out
  clear gac2_16
  go_wp2_with fail
  (refine (held_one kq Av3 cv3 (marked 1 R.length) R.length HML.out 1 (1 + S) _ (Kd.C_below Hhc.out (by repeat (first | exact (Below.refl _ _) | apply pw_below_drewN | apply below_drew | apply below_alloc))) (Kd.R_reads' Hh.out).2.1 HHe.out).mono ?_)
  rintro e w' ⟨rfl, ⟨nd4, rfl⟩⟩
  go_wp2_with fail
  (refine (laws_toTimedRing.calls kq t w A c l _ _ _ _ (Kd.C_below HA.out (by repeat (first | exact (lw_then (lw_then (lw_then (lw_then (lw_then HB1.out HB2.out) HB3.out) HB4.out) HB5.out) HB17.out) | apply pw_below_drewN | apply below_drew | apply below_alloc))) HL.out HTo.out).mono ?_)
  rintro e w18 ⟨v6, rfl, hr, hb⟩
  have HB18 := Aside0.mk (show Below w17.heap.size w17 w18 from lw_then (by repeat (first | exact (Below.refl _ _) | apply pw_below_drewN | apply below_drew | apply below_alloc)) hb)
  have gac0_18 := pw_cell_below HB18.out gac0_17
  clear gac0_17
  have gac1_18 := pw_cell_below HB18.out gac1_17
  clear gac1_17
  have gac2_18 := pw_cell_below HB18.out gac2_17
  clear gac2_17
  obtain ⟨Av6, cv6, rfl⟩ := Kd.R_slice hr
  have Hv6 := Aside0.mk hr
  clear hr
  clear hb
  go_wp2_with fail
  (refine (laws_toIntSS.calls kq B e ws _ _ (Kd.C_below HBw.out (by repeat (first | exact (lw_then (lw_then (lw_then (lw_then (lw_then (lw_then HB1.out HB2.out) HB3.out) HB4.out) HB5.out) HB17.out) HB18.out) | apply pw_below_drewN | apply below_drew | apply below_alloc))) HG.out HTS.out).mono ?_)
  rintro e w19 ⟨v7, rfl, hr, hb⟩
  have HB19 := Aside0.mk (show Below w18.heap.size w18 w19 from lw_then (by repeat (first | exact (Below.refl _ _) | apply pw_below_drewN | apply below_drew | apply below_alloc)) hb)
  have gac0_19 := pw_cell_below HB19.out gac0_18
  clear gac0_18
  have gac1_19 := pw_cell_below HB19.out gac1_18
  clear gac1_18
  have gac2_19 := pw_cell_below HB19.out gac2_18
  clear gac2_18
  obtain ⟨Av7, cv7, rfl⟩ := Kd.S_slice hr
  have Hv7 := Aside0.mk (Kd.S_bound hr)
  clear hr
  clear hb
  go_wp2_with fail
  (refine (impl_RotationsOf.calls kq t w Av6 cv6 l Av7 cv7 ws R b _ (Kd.C_below (Kd.R_reads' Hv6.out).2.2 (by repeat (first | exact HB19.out | apply pw_below_drewN | apply below_drew | apply below_alloc))) (Kd.R_reads' Hv6.out).2.1 (Kd.C_below (Kd.S_reads' Hv7.out).2.2 (by repeat (first | exact (Below.refl _ _) | apply pw_below_drewN | apply below_drew | apply below_alloc))) (Kd.S_reads' Hv7.out).2.1 HI.out).mono ?_)
  rintro e w20 ⟨v8, rfl, hr, hb⟩
  have HB20 := Aside0.mk (show Below w19.heap.size w19 w20 from lw_then (by repeat (first | exact (Below.refl _ _) | apply pw_below_drewN | apply below_drew | apply below_alloc)) hb)
  have gac0_20 := pw_cell_below HB20.out gac0_19
  clear gac0_19
  have gac1_20 := pw_cell_below HB20.out gac1_19
  clear gac1_19
  have gac2_20 := pw_cell_below HB20.out gac2_19
  clear gac2_19
  obtain ⟨Av8, cv8, rfl⟩ := Kd.R_slice hr
  have Hv8 := Aside0.mk (Kd.R_bound hr)
  clear hr
  clear hb
  go_wp2_with fail
  (refine (laws_eqIntS.calls kq Av8 cv8 R Au3 cu3 R true _ (Kd.C_below (Kd.R_reads' Hv8.out).2.2 (by repeat (first | exact (Below.refl _ _) | apply pw_below_drewN | apply below_drew | apply below_alloc))) (Kd.R_reads' Hv8.out).2.1 (Kd.C_below (Kd.R_reads' Hu3.out).2.2 (by repeat (first | exact (lw_then (lw_then (lw_then HB17.out HB18.out) HB19.out) HB20.out) | apply pw_below_drewN | apply below_drew | apply below_alloc))) (Kd.R_reads' Hu3.out).2.1 HEq.out).mono ?_)
  rintro e w' ⟨rfl, ⟨nd5, rfl⟩⟩
  go_wp2_with fail
  (refine (held_one kq Av3 cv3 (marked 1 R.length) R.length HML.out 1 (1 + S) _ (Kd.C_below Hhc.out (by repeat (first | exact (lw_then (lw_then HB18.out HB19.out) HB20.out) | apply pw_below_drewN | apply below_drew | apply below_alloc))) (Kd.R_reads' Hh.out).2.1 HHe.out).mono ?_)
  rintro e w' ⟨rfl, ⟨nd6, rfl⟩⟩
  go_wp2_with fail
  go_ret
  exact ⟨rfl, (by repeat (first | exact (lw_then (lw_then (lw_then (lw_then (lw_then (lw_then (lw_then (lw_then HB1.out HB2.out) HB3.out) HB4.out) HB5.out) HB17.out) HB18.out) HB19.out) HB20.out) | apply pw_below_drewN | apply below_drew | apply below_alloc))⟩
set_option maxHeartbeats 8000000 in
theorem rotationsOf_big1 (t w : Int) (A : Option Addr) (c : Nat) (l : List Int) (B : Option Addr) (e : Nat) (ws : List (List Int)) (W : World) (h : Kd.C (Kd.int .i64) W A l.length l) (hl : l.length ≤ c) (g : Kd.C (Kd.slice 3 (Kd.int .i64)) W B ws.length ws) (hg : ws.length ≤ e)
    (z1 : Int) (hz1 : laws_szTimedRing.f t w l 1048576 = some z1) (hz10 : z1 < 0) :
    Calls Try.prog 11 #[.agg #[.int .i64 t, .int .i64 w, .slice A l.length c], .slice B ws.length e] W fun e W' => e = .returned (.bool true) ∧ Below W.heap.size W W' := by
  have HA := Aside0.mk h
  have HL := Aside0.mk hl
  have HBw := Aside0.mk g
  have HG := Aside0.mk hg
  have HZ1 := Aside0.mk hz1
  clear h hl g hg hz1
  have d1 : decide (z1 < 0) = true := decide_eq_true hz10
  clear hz10
  go_enter Try.func11, Try.ntmps11
  go_wp2_with ((with_reducible refine gate_dst (N := 2) rfl ?_); refine box_event ?hg (N := 2) ?hd (cs := #[.int .i64 t, .int .i64 w, .slice A l.length c]) (t := 24) ?hr ?_; (case hd => rfl); (case hg => rfl); (case hr => first | (go_simp; done) | (go_simp; rfl)); intro ga hga w1 hbox hb; have HB1 := Aside0.mk (show Below W.heap.size W w1 from lw_then (by repeat (first | exact (Below.refl _ _) | apply pw_below_drewN | apply below_drew | apply below_alloc)) hb); have gac0 : w1.cell? ⟨ga, 0, none⟩ = some (.int .i64 t) := (blk_cell hbox 0).trans rfl; have gac1 : w1.cell? ⟨ga, 1, none⟩ = some (.int .i64 w) := (blk_cell hbox 1).trans rfl; have gac2 : w1.cell? ⟨ga, 2, none⟩ = some (.slice A l.length c) := (blk_cell hbox 2).trans rfl; clear hb hbox hga; have HXgac0 := Aside0.mk gac0; have HXgac1 := Aside0.mk gac1; have HXgac2 := Aside0.mk gac2)
  go_wp2_with fail
  (refine (laws_szTimedRing.calls t w A c l 1048576 _ _ (Kd.C_below HA.out (by repeat (first | exact HB1.out | apply pw_below_drewN | apply below_drew | apply below_alloc))) HL.out HZ1.out).mono ?_)
  rintro e w2 ⟨rfl, hb⟩
  have HB2 := Aside0.mk (show Below w1.heap.size w1 w2 from lw_then (by repeat (first | exact (Below.refl _ _) | apply pw_below_drewN | apply below_drew | apply below_alloc)) hb)
  have gac0_2 := pw_cell_below HB2.out gac0
  clear gac0
  have gac1_2 := pw_cell_below HB2.out gac1
  clear gac1
  have gac2_2 := pw_cell_below HB2.out gac2
  clear gac2
  clear hb
  go_wp2_with fail
  go_ret
  exact ⟨rfl, (by repeat (first | exact (lw_then HB1.out HB2.out) | apply pw_below_drewN | apply below_drew | apply below_alloc))⟩
theorem rotationsOf_big2 (t w : Int) (A : Option Addr) (c : Nat) (l : List Int) (B : Option Addr) (e : Nat) (ws : List (List Int)) (W : World) (h : Kd.C (Kd.int .i64) W A l.length l) (hl : l.length ≤ c) (g : Kd.C (Kd.slice 3 (Kd.int .i64)) W B ws.length ws) (hg : ws.length ≤ e)
    (kq : Nat) (z1 z2 : Int) (hz1 : laws_szTimedRing.f t w l 1048576 = some z1) (hz10 : 0 ≤ z1) (hz2 : laws_szIntSS.f kq ws z1 = some z2) (hz20 : z2 < 0) :
    Calls Try.prog 11 #[.agg #[.int .i64 t, .int .i64 w, .slice A l.length c], .slice B ws.length e] W fun e W' => e = .returned (.bool true) ∧ Below W.heap.size W W' := by
  have HA := Aside0.mk h
  have HL := Aside0.mk hl
  have HBw := Aside0.mk g
  have HG := Aside0.mk hg
  have HZ1 := Aside0.mk hz1
  have HZ2 := Aside0.mk hz2
  clear h hl g hg hz1 hz2
  have d1 : decide (z1 < 0) = false := decide_eq_false (by omega)
  have d2 : decide (z2 < 0) = true := decide_eq_true hz20
  clear hz10 hz20
  go_enter Try.func11, Try.ntmps11
  go_wp2_with ((with_reducible refine gate_dst (N := 2) rfl ?_); refine box_event ?hg (N := 2) ?hd (cs := #[.int .i64 t, .int .i64 w, .slice A l.length c]) (t := 24) ?hr ?_; (case hd => rfl); (case hg => rfl); (case hr => first | (go_simp; done) | (go_simp; rfl)); intro ga hga w1 hbox hb; have HB1 := Aside0.mk (show Below W.heap.size W w1 from lw_then (by repeat (first | exact (Below.refl _ _) | apply pw_below_drewN | apply below_drew | apply below_alloc)) hb); have gac0 : w1.cell? ⟨ga, 0, none⟩ = some (.int .i64 t) := (blk_cell hbox 0).trans rfl; have gac1 : w1.cell? ⟨ga, 1, none⟩ = some (.int .i64 w) := (blk_cell hbox 1).trans rfl; have gac2 : w1.cell? ⟨ga, 2, none⟩ = some (.slice A l.length c) := (blk_cell hbox 2).trans rfl; clear hb hbox hga; have HXgac0 := Aside0.mk gac0; have HXgac1 := Aside0.mk gac1; have HXgac2 := Aside0.mk gac2)
  go_wp2_with fail
  (refine (laws_szTimedRing.calls t w A c l 1048576 _ _ (Kd.C_below HA.out (by repeat (first | exact HB1.out | apply pw_below_drewN | apply below_drew | apply below_alloc))) HL.out HZ1.out).mono ?_)
  rintro e w2 ⟨rfl, hb⟩
  have HB2 := Aside0.mk (show Below w1.heap.size w1 w2 from lw_then (by repeat (first | exact (Below.refl _ _) | apply pw_below_drewN | apply below_drew | apply below_alloc)) hb)
  have gac0_2 := pw_cell_below HB2.out gac0
  clear gac0
  have gac1_2 := pw_cell_below HB2.out gac1
  clear gac1
  have gac2_2 := pw_cell_below HB2.out gac2
  clear gac2
  clear hb
  go_wp2_with fail
  (refine (laws_szIntSS.calls kq B e ws z1 _ _ (Kd.C_below HBw.out (by repeat (first | exact (lw_then HB1.out HB2.out) | apply pw_below_drewN | apply below_drew | apply below_alloc))) HG.out HZ2.out).mono ?_)
  rintro e w' ⟨rfl, ⟨nd0, rfl⟩⟩
  go_wp2_with fail
  go_ret
  exact ⟨rfl, (by repeat (first | exact (lw_then HB1.out HB2.out) | apply pw_below_drewN | apply below_drew | apply below_alloc))⟩
theorem rotationsOf_tell (t w : Int) (l : List Int) (ws : List (List Int)) (hl : l.length ≤ 17592186044416) (hw : Rows44 ws) :
    ∃ q : List Int × Bool, Tells (fun k => spec_RotationsOf.f k t w l ws) q ∧ Tells (fun k => impl_RotationsOf.f k t w l ws) q ∧ q.1.length ≤ 240 := by
  have hr : ∀ row ∈ ws, row.length < 4611686018427387904 := fun row h => by have := hw.2 row h; omega
  have hws := hw.1
  obtain ⟨h1, h2⟩ := wished_tells t w l (by omega) ws (by omega) hr
  cases c : wishedB t w l ws
  · rw [c] at h1 h2
    refine ⟨([], false), ?_, ?_, by simp⟩
    · simp only [spec_RotationsOf.f]
      exact Tells.bind h1 (Tells.now fun _ => rfl)
    · simp only [impl_RotationsOf.f]
      exact Tells.bind h2 (Tells.now fun _ => rfl)
  · obtain ⟨out, g1, g2, g3⟩ := rotations_tell t w l ws c (by omega) hr
    rw [c] at h1
    refine ⟨(out, true), ?_, g2, g3⟩
    simp only [spec_RotationsOf.f]
    refine Tells.bind h1 ?_
    simp only [if_true]
    exact Tells.bind g1 (Tells.now fun _ => rfl)
theorem core_FnExactRotationsOf (t w : Int) (A : Option Addr) (c : Nat) (l : List Int) (B : Option Addr) (e : Nat) (ws : List (List Int)) (W : World)
    (h : ((Lit.int .i64 t).wf = true ∧ (Lit.int .i64 w).wf = true) ∧ Kd.C (Kd.int .i64) W A l.length l ∧ l.length ≤ c ∧ l.length ≤ 17592186044416 ∧ ∀ x ∈ l, (Lit.int .i64 x).wf = true)
    (g : Kd.C (Kd.slice 3 (Kd.int .i64)) W B ws.length ws ∧ ws.length ≤ e ∧ ws.length ≤ 5864062014805 ∧ ∀ r ∈ ws, r.length ≤ 17592186044416 ∧ ∀ x ∈ r, (Lit.int .i64 x).wf = true) :
    Calls Try.prog 11 #[.agg #[.int .i64 t, .int .i64 w, .slice A l.length c], .slice B ws.length e] W fun e W' => e = .returned (.bool true) ∧ Below W.heap.size W W' := by
  have hw : Rows44 ws := ⟨g.2.2.1, fun r hr => (g.2.2.2 r hr).1⟩
  obtain ⟨z1, hz1, hz1b, hz1l⟩ := szRing_is t w l h.2.2.2.1
  by_cases c1 : z1 < 0
  · exact rotationsOf_big1 t w A c l B e ws W h.2.1 h.2.2.1 g.1 g.2.1 z1 hz1 c1
  obtain ⟨z2, ⟨K0, hz2⟩, hz2s⟩ := szSS_tells ws hw z1 (by omega) hz1b
  by_cases c2 : z2 < 0
  · exact rotationsOf_big2 t w A c l B e ws W h.2.1 h.2.2.1 g.1 g.2.1 K0 z1 z2 hz1 (by omega) (hz2 K0 (Nat.le_refl _)) c2
  have hl := hz1l (by omega)
  have hs := hz2s (by omega)
  obtain ⟨⟨R, b⟩, ⟨K1, h1⟩, ⟨K2, h2⟩, hR⟩ := rotationsOf_tell t w l ws h.2.2.2.1 hw
  simp only at hR
  obtain ⟨K3, h3⟩ := toRing_tells t w l h.2.2.2.1
  obtain ⟨K4, h4⟩ := toIntSS_tells ws hw
  obtain ⟨K5, h5⟩ := eqIntS_tells R (by omega)
  obtain ⟨K6, h6⟩ := eqRing_tells t w l h.2.2.2.1
  obtain ⟨K7, h7⟩ := eqIntSS_tells ws hw
  obtain ⟨K8, h8⟩ := markRing_tells t w l hl
  obtain ⟨r, ⟨K9, h9⟩, hr0⟩ := markRows_tells ws (by omega) (1 + (l.length : Int)) (by omega) (by omega)
  have h10 : ∀ k, R.length + 1 ≤ k → laws_markIntS.f k R 1 = some (1 + (R.length : Int), marked 1 R.length) := fun k hk => markIntS_tells R (by omega) (by omega)
  have h11 : ∀ k, R.length + 1 ≤ k → laws_heldIntS.f k (marked 1 R.length) 1 = some (1 + (R.length : Int)) := fun k hk => heldIntS_tells R.length (by omega) (by omega)
  generalize hK : K0 + K1 + K2 + K3 + K4 + K5 + K6 + K7 + K8 + K9 + R.length + 1 = K
  exact rotationsOf_walk t w A c l B e ws W h.2.1 h.2.2.1 g.1 g.2.1 R b K z1 z2 (1 + (l.length : Int)) r.1 (R.length : Int) (marked 1 l.length) r.2 hz1 (by omega) (hz2 K (by omega)) (by omega) (h3 K (by omega)) (h4 K (by omega)) (h1 K (by omega)) (h2 K (by omega)) (h5 K (by omega)) (h6 K (by omega)) (h7 K (by omega)) (h8 K (by omega)) (h9 K (by omega)) hr0 (by omega) (h10 K (by omega)) (h11 K (by omega))
end Go.Proofs.Ytoeddkfbhjmbmaa.PA
